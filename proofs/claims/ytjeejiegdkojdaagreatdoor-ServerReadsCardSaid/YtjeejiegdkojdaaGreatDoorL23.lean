/-
  Part 23 of the library that the proof leans on.
-/
import Derived.Test.YtjeejiegdkojdaaGreatDoorL12
import Derived.Test.YtjeejiegdkojdaaGreatDoorL22
import Derived.Test.YtjeejiegdkojdaaGreatDoorProg
import Derived.Test.YtjeejiegdkojdaaGreatDoorL17
import Derived.WalkKit
import Derived.Deep.RegionLaw
import Derived.Lib.SliceRun
import Derived.Shelf.RegionOpenPlain
import Derived.Test.YtjeejiegdkojdaaGreatDoorL18
import Derived.KernelRfl
namespace Go.M
open Go Go.Proofs
set_option maxRecDepth 100000
set_option maxHeartbeats 8000000
@[reducible] def tO (s:eB) (ms:List Lr):TV→Ob→Nat→Prop:=fun r o c=>(ms=[]∧r= .sl 0 [] true∧c=3∧o=nr s)∨(r= .tk 3∧c=4∧o=nr s++[(3,pQ ms)])
theorem FQ (x:RS):VC E0 50 2 [.ptr 0 0] [(0,XU x 1),(1,PV x.st)] (RR (.s (.int .u64 x.ar.done)) 2 [(0,XU x 1),(1,PV x.st)]):=by
 have hd:=m8 x.ar;refine en L0 Tryz.f50 ?_
 repeat((first|(refine⟨fun h_=>?_,fun h_=>?_⟩)|(refine aA (fun h_=>?_) (fun h_=>?_))|(refine az (fun h_=>?_) (fun h_=>?_)))<;>first|(exfalso;revert h_;decide;done)|(exact absurd rfl h_)|(have bq:=True.intro;clear bq;(conv=>whnf)))
 refine⟨[],[some 2],_,_,_,_,hd,t3,cw ?_⟩;exact⟨[],[some 0,some 1],_,_,_,t3,rfl,rfl,rfl⟩
theorem qs (s:eB) (m:Lr) (e:Int) (hl:s.x.ao.nodes.length<1000000) (zb:VC E0 42 0 [.agg (b9 s.x.ao),.s (.int .i64 s.node),.agg (aE m)] [] (RR (.s (.int .i64 e)) 0 [])):VC E0 18 3 [.ptr 0 0,.agg (aE m)] (nr s) (RR (.s (.bool (decide (e=0)))) 3 (nr s)):=by
 have r8:=nh s.x hl;refine en L0 Tryz.f18 ?_;refine⟨[],[some 1],_,_,_,_,r8,t3,cw ?_⟩;refine⟨[],[],_,_,_,_,zb,t3,cw ?_⟩;refine sp ?_ ?_<;>intro h
 ·have h:e=0:=h;refine wh ?_;refine⟨[],[some 0,some 1,some 2],_,_,_,tx ?_,rfl,rfl,rfl⟩;exact Lz.of (aK (Eq.symm (decide_eq_true h)))
 ·have h:¬e=0:=h;refine wh ?_;refine⟨[],[some 0,some 1,some 2],_,_,_,tx ?_,rfl,rfl,rfl⟩;exact Lz.of (aK (Eq.symm (decide_eq_false h)))
@[reducible] def tP (s:eB) (f num key:Int):eB×Lr:=if 0<(cE s.x.st key).length∧s.x.ar.done<(ba (cE s.x.st key)).seq then(⟨s.node,s.bm,s.x,(qB s.rd (f - 200) num key).1⟩,rX s (qB s.rd (f - 200) num key).2.1)else(s,Mw s f num key (ba (cE s.x.st key)))
theorem TP (s:eB) (f t ch e num key:Int) (H:bp s.x.ao) (hm:s.x.role.m7=true∧s.x.cU=true) (HS:oK s.x.st) (hl:s.rd.l.length<1000) (he:(qB s.rd (f - 200) num key).2.2=0) (hf:201≤f∧f≤206):
 VC E0 19 3 [.ptr 0 0,.agg (aE (zA f t ch e num key))] (nr s) (tO (tP s f num key).1 [(tP s f num key).2]):=by
 have Mx:=Qm s;rw[hm.1,hm.2]at Mx;have oN:s.x.ao.nodes.length<1000000:=by have:=H.2.2.1;omega
 have bW:=tL s.x;have Bf:=FQ s.x;have My:=TJ s.x.st key s.x.ar.done HS;have hw:IntKind.i64.wrap (f - 200)=f - 200:=IntWalk.i64_in _ om;by_cases hd:0<(cE s.x.st key).length∧s.x.ar.done<(ba (cE s.x.st key)).seq
 ·rw[show Iw s.x.st key s.x.ar.done=(cu,false)from if_pos hd]at My;rw[show tP s f num key=_ from if_pos hd];have Dg:=TM s.rd (f - 200) num key hl;have FB:=fun JZ=>JY ⟨s.node,s.bm,s.x,JZ⟩ (qB s.rd (f - 200) num key).2.1 H;generalize hP:qB s.rd (f - 200) num key=P at Dg FB he ⊢;obtain⟨JZ,r,er⟩:=P;have he:er=0:=he;subst he;have FB:=FB JZ;refine en L0 Tryz.f19 ?_;refine⟨[],[some 0,some 1,some 2],_,_,_,_,Mx,t3,cw ?_⟩;refine⟨[],[some 1],_,_,_,_,bW,t3,cw ?_⟩;refine⟨[],[some 1,some 8],_,_,_,_,Bf,t3,cw ?_⟩;refine⟨[],[some 8],_,_,_,_,My,t3,cw ?_⟩;rw[hw];refine⟨[],[some 2],_,_,_,_,Dg,t3,cw ?_⟩
  repeat((first|(refine⟨fun h_=>?_,fun h_=>?_⟩)|(refine aA (fun h_=>?_) (fun h_=>?_))|(refine az (fun h_=>?_) (fun h_=>?_)))<;>first|(exfalso;revert h_;decide;done)|(exact absurd rfl h_)|(have bq:=True.intro;clear bq;(conv=>whnf)))
  refine⟨[],[some 0,some 1,some 2],_,_,_,_,FB,t3,cw ?_⟩;exact⟨[],[some 0,some 1,some 2,some 18],_,_,_,t3,.inr ⟨rfl,rfl,rfl⟩⟩
 ·rw[show Iw s.x.st key s.x.ar.done=(ba (cE s.x.st key),true)from if_neg hd]at My;rw[show tP s f num key=_ from if_neg hd];have hg:=Qo s f num key (ba (cE s.x.st key)) oN;refine en L0 Tryz.f19 ?_;refine⟨[],[some 0,some 1,some 2],_,_,_,_,Mx,t3,cw ?_⟩;refine⟨[],[some 1],_,_,_,_,bW,t3,cw ?_⟩;refine⟨[],[some 1,some 8],_,_,_,_,Bf,t3,cw ?_⟩;refine⟨[],[some 8],_,_,_,_,My,t3,cw ?_⟩;refine⟨[],[some 0,some 1,some 2],_,_,_,_,hg,t3,cw ?_⟩;exact⟨[],[some 0,some 1,some 2,some 16],_,_,_,t3,.inr ⟨rfl,rfl,rfl⟩⟩
@[reducible] def TQ (s:eB) (f num key:Int):Lr:=tW s.node f s.x.ao.chain s.x.ao.aJ num key (ba (cE s.x.st key)).bA
theorem Qp (s:eB) (f t ch e num key:Int) (H:bp s.x.ao) (hm:s.x.role.m7=true∧s.x.cU=true) (HS:oK s.x.st):
 VC E0 20 3 [.ptr 0 0,.agg (aE (tI f t ch e num key))] (nr s) (tO s [TQ s f num key]):=by
 have Mx:=Qm s;rw[hm.1,hm.2]at Mx;have oN:s.x.ao.nodes.length<1000000:=by have:=H.2.2.1;omega
 have bW:=tL s.x;have hla:=tJ s.x.st key HS;have ht:=tN s (tW 0 0 0 0 num key (ba (cE s.x.st key)).bA) f oN;refine en L0 Tryz.f20 ?_;refine⟨[],[some 0,some 1,some 2],_,_,_,_,Mx,t3,cw ?_⟩;refine⟨[],[some 1],_,_,_,_,bW,t3,cw ?_⟩;refine⟨[],[some 8],_,_,_,_,hla,t3,cw ?_⟩;refine⟨[],[some 0,some 1,some 2],_,_,_,_,ht,t3,cw ?_⟩;exact⟨[],[some 0,some 1,some 2,some 13],_,_,_,t3,.inr ⟨rfl,rfl,rfl⟩⟩
@[reducible] def Dh (s:eB) (num key bA:Int):List Lr:=
 if(gY s.rd num).2.2=true∧(gY s.rd num).2.1.key=key∧(thenS s.x.st key bA s.x.ar.done).2=true then [Mw s (200+(gY s.rd num).2.1.aj) (gY s.rd num).2.1.num (gY s.rd num).2.1.key (thenS s.x.st key bA s.x.ar.done).1]else []
theorem Mz (s:eB) (f t ch e num key bA:Int) (H:bp s.x.ao) (HS:oK s.x.st) (hl:s.rd.l.length<1000) (hr:zl s.rd.l) (hc:∀r∈s.rd.l,1≤r.aj∧r.aj≤6):
 VC E0 21 3 [.ptr 0 0,.agg (aE (tW f t ch e num key bA))] (nr s) (tO ⟨s.node,s.bm,s.x,(gY s.rd num).1⟩ (Dh s num key bA)):=by
 have oN:s.x.ao.nodes.length<1000000:=by have:=H.2.2.1;omega
 have bW:=tL s.x;have Bf:=FQ s.x;have Vk:=Qh s.x.st key bA s.x.ar.done HS;have Qq:=Qk s.rd num hl hr;have bT:(gY s.rd num).2.2=true→1≤(gY s.rd num).2.1.aj∧(gY s.rd num).2.1.aj≤6:=fun h=>by
  obtain⟨v,hv,hb⟩:=List.any_eq_true.1 (show s.rd.l.any (dT num)=true from h);have bc:s.rd.l.filter (dT num)≠[]:=List.ne_nil_of_mem (List.mem_filter.2 ⟨hv,hb⟩);have e:(gY s.rd num).2.1=(s.rd.l.filter (dT num)).getLast bc:=by
   show((s.rd.l.filter (dT num)).getLast?).getD fZ=_;rw[List.getLast?_eq_some_getLast bc];rfl
  rw[e];exact hc _ (List.mem_filter.1 (List.getLast_mem bc)).1
 have hg:=fun(r:Rd) (v:Vs) (JZ:wa)=>Qo ⟨s.node,s.bm,s.x,JZ⟩ (200+r.aj) r.num r.key v oN;generalize hP:gY s.rd num=P at Qq bT ⊢;have hA:Dh s num key bA=if P.2.2=true∧P.2.1.key=key∧(thenS s.x.st key bA s.x.ar.done).2=true then [Mw s (200+P.2.1.aj) P.2.1.num P.2.1.key (thenS s.x.st key bA s.x.ar.done).1]else []:=by unfold Dh;rw[hP]
 generalize thenS s.x.st key bA s.x.ar.done=Q at Vk hA;rw[hA];clear hA hP;obtain⟨JZ,r,ok⟩:=P;obtain⟨v,ok2⟩:=Q;have hg:=hg r v JZ;cases ok with
 |false=>
  rw[if_neg (fun q=>Bool.noConfusion q.1)];refine en L0 Tryz.f21 ?_;refine⟨[],[some 2],_,_,_,_,Qq,t3,cw ?_⟩;exact⟨[],[some 0,some 1,some 2],_,_,_,t3,.inl ⟨rfl,rfl,rfl,rfl⟩⟩
 |true=>
  have bT:1≤r.aj∧r.aj≤6:=bT rfl;have hw:IntKind.i64.wrap (200+r.aj)=200+r.aj:=IntWalk.i64_in _ om;refine en L0 Tryz.f21 ?_;refine⟨[],[some 2],_,_,_,_,Qq,t3,cw ?_⟩;refine sp ?_ ?_<;>intro hk
  ·have hk:¬r.key=key:=hk;rw[if_neg (fun q=>hk q.2.1)];refine wh ?_;exact⟨[],[some 0,some 1,some 2],_,_,_,t3,.inl ⟨rfl,rfl,rfl,rfl⟩⟩
  ·have hk:¬¬r.key=key:=hk;have hk:r.key=key:=Classical.not_not.1 hk;refine wh ?_;refine⟨[],[some 1],_,_,_,_,bW,t3,cw ?_⟩;refine⟨[],[some 1,some 7],_,_,_,_,Bf,t3,cw ?_⟩;refine⟨[],[some 7],_,_,_,_,Vk,t3,cw ?_⟩;cases ok2 with
   |false=>
    rw[if_neg (fun q=>Bool.noConfusion q.2.2)];refine wh ?_;exact⟨[],[some 0,some 1,some 2],_,_,_,t3,.inl ⟨rfl,rfl,rfl,rfl⟩⟩
   |true=>
    rw[if_pos ⟨rfl,hk,rfl⟩];refine wh ?_;rw[hw];refine⟨[],[some 0,some 1,some 2],_,_,_,_,hg,t3,cw ?_⟩;exact⟨[],[some 0,some 1,some 2,some 15],_,_,_,t3,.inr ⟨rfl,rfl,rfl⟩⟩
theorem FR (s:eB) (y:RS) (m:Lr) (hk:m.kind=12∨m.kind=13∨m.kind=17) (ly:m.to=s.node) (kr:VC E0 15 0 [.agg (aE m)] [] (RR (.s (.int .i64 0)) 0 []))
 (hx:VC E0 17 1 [.ptr 0 0,.agg (aE m)] (gX s.x) (qQ y)):VC E0 6 3 [.ptr 0 0,.agg (aE m)] (nr s) (tO ⟨s.node,s.bm,bG y,s.rd⟩ y.out):=by
 obtain⟨k,f,t,ch,e,n,sq,d,v,sl,co,us,dt,ky⟩:=m;obtain⟨node,bm,x,rd⟩:=s;have ly:t=node:=ly;subst ly;have hk:k=12∨k=13∨k=17:=hk;rcases hk with rfl |rfl |rfl
 all_goals
  refine en L0 Tryz.f6 ?_;refine⟨[],[],_,_,_,_,kr,t3,cw ?_⟩
  repeat((first|(refine⟨fun h_=>?_,fun h_=>?_⟩)|(refine aA (fun h_=>?_) (fun h_=>?_))|(refine az (fun h_=>?_) (fun h_=>?_)))<;>first|(exfalso;revert h_;decide;done)|(exfalso;revert h_;simp;done)|(have bq:=True.intro;clear bq;((conv=>whnf)<;>repeat(with_reducible refine D1 ?_)<;>conv=>whnf)))
  refine⟨[],[some 1],_,_,_,_,hx,t3,cw ?_⟩;exact⟨[],[some 0,some 1,some 2,some 5],_,_,_,t3,.inr ⟨rfl,rfl,rfl⟩⟩
theorem MA (s:eB) (f num key:Int) (H:bp s.x.ao) (hn:iB s.node) (IL:(aD s.x.ao s.node).m7=true) (hm:s.x.role.m7=true∧s.x.cU=true) (HS:oK s.x.st) (hl:s.rd.l.length<1000) (he:(qB s.rd (f - 200) num key).2.2=0) (hf:201≤f∧f≤206):
 VC E0 6 3 [.ptr 0 0,.agg (aE (zA f s.node s.x.ao.chain s.x.ao.aJ num key))] (nr s) (tO (tP s f num key).1 [(tP s f num key).2]):=by
 have kr:=JT f s.node s.x.ao.chain s.x.ao.aJ num key (.inr hf) hn H.1 H.2.1;have zb:=qs s _ 0 (by have:=H.2.2.1;omega) (TI s.x.ao H s.node f num key hn hf IL);rw[decide_eq_true rfl]at zb;have hr:=TP s f s.node s.x.ao.chain s.x.ao.aJ num key H hm HS hl he hf;refine en L0 Tryz.f6 ?_;refine⟨[],[],_,_,_,_,kr,t3,cw ?_⟩
 repeat((first|(refine⟨fun h_=>?_,fun h_=>?_⟩)|(refine aA (fun h_=>?_) (fun h_=>?_))|(refine az (fun h_=>?_) (fun h_=>?_)))<;>first|(exfalso;revert h_;decide;done)|(exfalso;revert h_;simp;done)|(have bq:=True.intro;clear bq;((conv=>whnf)<;>repeat(with_reducible refine D1 ?_)<;>conv=>whnf)))
 refine⟨[],[some 0,some 1,some 2],_,_,_,_,zb,t3,cw ?_⟩
 repeat((first|(refine⟨fun h_=>?_,fun h_=>?_⟩)|(refine aA (fun h_=>?_) (fun h_=>?_))|(refine az (fun h_=>?_) (fun h_=>?_)))<;>first|(exfalso;revert h_;decide;done)|(exfalso;revert h_;simp;done)|(have bq:=True.intro;clear bq;(conv=>whnf)))
 refine⟨[],[some 0,some 1,some 2],_,_,_,_,hr,t3,?_⟩;rintro rr o' c' (⟨h0,rfl,rfl,rfl⟩|⟨rfl,rfl,rfl⟩)
 ·cases h0
 ·refine wh ?_;exact⟨[],[some 0,some 1,some 2,some 10],_,_,_,t3,.inr ⟨rfl,rfl,rfl⟩⟩
theorem MB (s:eB) (f num key:Int) (H:bp s.x.ao) (hn:iB s.node) (TG:iB f) (YS:(aD s.x.ao s.node).tail=true) (hf:f∈s.x.ao.nodes) (hm:s.x.role.m7=true∧s.x.cU=true) (HS:oK s.x.st):
 VC E0 6 3 [.ptr 0 0,.agg (aE (tI f s.node s.x.ao.chain s.x.ao.aJ num key))] (nr s) (tO s (if f=s.node then []else [TQ s f num key])):=by
 have kr:=Df f s.node s.x.ao.chain s.x.ao.aJ num key TG hn H.1 H.2.1;have oN:s.x.ao.nodes.length<1000000:=by have:=H.2.2.1;omega
 by_cases hs:f=s.node
 ·have zb:=qs s _ 12 oN (Qg s.x.ao H s.node num key hn YS);rw[decide_eq_false (by decide)]at zb;rw[if_pos hs];subst hs;refine en L0 Tryz.f6 ?_;refine⟨[],[],_,_,_,_,kr,t3,cw ?_⟩
  repeat((first|(refine⟨fun h_=>?_,fun h_=>?_⟩)|(refine aA (fun h_=>?_) (fun h_=>?_))|(refine az (fun h_=>?_) (fun h_=>?_)))<;>first|(exfalso;revert h_;decide;done)|(exfalso;revert h_;simp;done)|(have bq:=True.intro;clear bq;((conv=>whnf)<;>repeat(with_reducible refine D1 ?_)<;>conv=>whnf)))
  refine⟨[],[some 0,some 1,some 2],_,_,_,_,zb,t3,cw ?_⟩;exact⟨[],[some 0,some 1,some 2],_,_,_,t3,.inl ⟨rfl,rfl,rfl,rfl⟩⟩
 ·have zb:=qs s _ 0 oN (TF s.x.ao H s.node f num key hn TG YS hf hs);rw[decide_eq_true rfl]at zb;rw[if_neg hs];have hr:=Qp s f s.node s.x.ao.chain s.x.ao.aJ num key H hm HS;refine en L0 Tryz.f6 ?_;refine⟨[],[],_,_,_,_,kr,t3,cw ?_⟩
  repeat((first|(refine⟨fun h_=>?_,fun h_=>?_⟩)|(refine aA (fun h_=>?_) (fun h_=>?_))|(refine az (fun h_=>?_) (fun h_=>?_)))<;>first|(exfalso;revert h_;decide;done)|(exfalso;revert h_;simp;done)|(have bq:=True.intro;clear bq;((conv=>whnf)<;>repeat(with_reducible refine D1 ?_)<;>conv=>whnf)))
  refine⟨[],[some 0,some 1,some 2],_,_,_,_,zb,t3,cw ?_⟩
  repeat((first|(refine⟨fun h_=>?_,fun h_=>?_⟩)|(refine aA (fun h_=>?_) (fun h_=>?_))|(refine az (fun h_=>?_) (fun h_=>?_)))<;>first|(exfalso;revert h_;decide;done)|(exfalso;revert h_;simp;done)|(have bq:=True.intro;clear bq;(conv=>whnf)))
  refine⟨[],[some 0,some 1,some 2],_,_,_,_,hr,t3,?_⟩;rintro rr o' c' (⟨h0,rfl,rfl,rfl⟩|⟨rfl,rfl,rfl⟩)
  ·cases h0
  ·refine wh ?_;exact⟨[],[some 0,some 1,some 2,some 10],_,_,_,t3,.inr ⟨rfl,rfl,rfl⟩⟩
theorem MD (s:eB) (num key bA:Int) (H:bp s.x.ao) (hn:iB s.node) (TG:iB (dO s.x.ao)) (IL:(aD s.x.ao s.node).m7=true∧(aD s.x.ao s.node).tail=false) (HS:oK s.x.st) (hl:s.rd.l.length<1000) (hr:zl s.rd.l) (hc:∀r∈s.rd.l,1≤r.aj∧r.aj≤6):
 VC E0 6 3 [.ptr 0 0,.agg (aE (tW (dO s.x.ao) s.node s.x.ao.chain s.x.ao.aJ num key bA))] (nr s) (tO ⟨s.node,s.bm,s.x,(gY s.rd num).1⟩ (Dh s num key bA)):=by
 have kr:=JU (dO s.x.ao) s.node s.x.ao.chain s.x.ao.aJ num key bA TG hn H.1 H.2.1;have zb:=qs s _ 0 (by have:=H.2.2.1;omega) (TH s.x.ao H s.node num key bA hn TG IL);rw[decide_eq_true rfl]at zb;have hr:=Mz s (dO s.x.ao) s.node s.x.ao.chain s.x.ao.aJ num key bA H HS hl hr hc;generalize Dh s num key bA=ms at hr ⊢;generalize (gY s.rd num).1=JZ at hr ⊢;refine en L0 Tryz.f6 ?_;refine⟨[],[],_,_,_,_,kr,t3,cw ?_⟩
 repeat((first|(refine⟨fun h_=>?_,fun h_=>?_⟩)|(refine aA (fun h_=>?_) (fun h_=>?_))|(refine az (fun h_=>?_) (fun h_=>?_)))<;>first|(exfalso;revert h_;decide;done)|(exfalso;revert h_;simp;done)|(have bq:=True.intro;clear bq;((conv=>whnf)<;>repeat(with_reducible refine D1 ?_)<;>conv=>whnf)))
 refine⟨[],[some 0,some 1,some 2],_,_,_,_,zb,t3,cw ?_⟩
 repeat((first|(refine⟨fun h_=>?_,fun h_=>?_⟩)|(refine aA (fun h_=>?_) (fun h_=>?_))|(refine az (fun h_=>?_) (fun h_=>?_)))<;>first|(exfalso;revert h_;decide;done)|(exfalso;revert h_;simp;done)|(have bq:=True.intro;clear bq;(conv=>whnf)))
 refine⟨[],[some 0,some 1,some 2],_,_,_,_,hr,t3,?_⟩;rintro rr o' c' (⟨h0,rfl,rfl,rfl⟩|⟨rfl,rfl,rfl⟩)
 ·refine wh ?_;exact⟨[],[some 0,some 1,some 2],_,_,_,t3,.inl ⟨h0,rfl,rfl,rfl⟩⟩
 ·refine wh ?_;exact⟨[],[some 0,some 1,some 2,some 10],_,_,_,t3,.inr ⟨rfl,rfl,rfl⟩⟩
theorem Qr (n:Int):VC E0 122 0 [.sl 0 [] true,.s (.int .i64 n)] [] (RR (.s (.int .i64 (-1))) 0 []):=by
 refine VC.bE L0 (show E0.func 122=some Tryz.f122 by kernel_rfl) (fun _ _=>rfl) rfl rfl [999999] ?_;refine wh ?_;refine rn ?_;exact⟨[],[],_,_,_,t3,rfl,rfl,rfl⟩
theorem pR (n:Int):VC E0 56 0 [.sl 0 [] true,.s (.int .i64 n)] [] (RR (.s (.bool false)) 0 []):=by
 refine en L0 Tryz.f56 ?_;refine⟨[],[],_,_,_,_,Qr n,t3,cw ?_⟩
 repeat((first|(refine⟨fun h_=>?_,fun h_=>?_⟩)|(refine aA (fun h_=>?_) (fun h_=>?_))|(refine az (fun h_=>?_) (fun h_=>?_)))<;>first|(exfalso;revert h_;decide;done)|(exact absurd rfl h_)|(have bq:=True.intro;clear bq;(conv=>whnf)))
 exact⟨[],[],_,_,_,t3,rfl,rfl,rfl⟩
theorem FT (c:CF) (H:bp c) (node:Int):VC E0 61 0 [.agg (b9 c),.s (.int .i64 node),.sl 0 [] true] [] (RR (.sl 0 [] true) 0 []):=by
 have hr:=fC c H node;generalize aD c node=r at hr;obtain⟨ri,rj,rh,rt,JN,M5,L9,JO⟩:=r;refine VC.bE L0 (show E0.func 61=some Tryz.f61 by kernel_rfl) (fun _ _=>rfl) rfl rfl [999999] ?_;refine wh ?_;refine⟨[],[],_,_,_,_,hr,t3,cw ?_⟩;refine sp ?_ ?_<;>intro t0;rotate_left
 ·exact absurd (show(0:Int)<(2:Int) by decide) t0
 refine wh ?_;refine⟨⟨by decide,by simp⟩,_,rfl,?_⟩;refine wh ?_;refine sp ?_ ?_<;>intro n0
 all_goals
  refine wh ?_
 ·refine⟨[],[],_,_,_,_,pR L9,t3,cw ?_⟩;refine sp ?_ ?_<;>intro t1;rotate_left
  ·exact absurd (show IntKind.i64.wrap (0+1)<(2:Int) by decide) t1
  refine wh ?_;refine⟨⟨by decide,by simp;decide⟩,_,rfl,?_⟩;refine wh ?_;refine sp ?_ ?_<;>intro n1
  all_goals
   refine wh ?_
  ·refine⟨[],[],_,_,_,_,pR JO,t3,cw ?_⟩;refine sp ?_ ?_<;>intro t2
   ·exact absurd t2 (show¬(IntKind.i64.wrap (IntKind.i64.wrap (0+1)+1)<(2:Int)) by decide)
   refine wh ?_;exact⟨[],[],_,_,_,t3,rfl,rfl,rfl⟩
  ·refine sp ?_ ?_<;>intro t2
   ·exact absurd t2 (show¬(IntKind.i64.wrap (IntKind.i64.wrap (0+1)+1)<(2:Int)) by decide)
   refine wh ?_;exact⟨[],[],_,_,_,t3,rfl,rfl,rfl⟩
 ·refine sp ?_ ?_<;>intro t1;rotate_left
  ·exact absurd (show IntKind.i64.wrap (0+1)<(2:Int) by decide) t1
  refine wh ?_;refine⟨⟨by decide,by simp;decide⟩,_,rfl,?_⟩;refine wh ?_;refine sp ?_ ?_<;>intro n1
  all_goals
   refine wh ?_
  ·refine⟨[],[],_,_,_,_,pR JO,t3,cw ?_⟩;refine sp ?_ ?_<;>intro t2
   ·exact absurd t2 (show¬(IntKind.i64.wrap (IntKind.i64.wrap (0+1)+1)<(2:Int)) by decide)
   refine wh ?_;exact⟨[],[],_,_,_,t3,rfl,rfl,rfl⟩
  ·refine sp ?_ ?_<;>intro t2
   ·exact absurd t2 (show¬(IntKind.i64.wrap (IntKind.i64.wrap (0+1)+1)<(2:Int)) by decide)
   refine wh ?_;exact⟨[],[],_,_,_,t3,rfl,rfl,rfl⟩
theorem ME (x:RS) (hj:x.ao.join=0):VC E0 62 1 [.ptr 0 0] (gX x) (RR (.s (.bool false)) 1 (gX x)):=by
 obtain⟨Vj,⟨c1,c2,c3,c4,c5⟩,⟨ri,rj,rh,rt,JN,M5,L9,JO⟩,st,ar,base,cU,bo,known,want,comes,out⟩:=x;have hj:c5=0:=hj;subst hj;cases rt
 all_goals
  refine en L0 Tryz.f62 ?_
  repeat((first|(refine⟨fun h_=>?_,fun h_=>?_⟩)|(refine aA (fun h_=>?_) (fun h_=>?_))|(refine az (fun h_=>?_) (fun h_=>?_)))<;>first|(exfalso;revert h_;decide;done)|(exact absurd rfl h_)|(have bq:=True.intro;clear bq;((conv=>whnf)<;>repeat(with_reducible refine D1 ?_)<;>conv=>whnf)))
  exact⟨[],[some 0],_,_,_,t3,rfl,rfl,rfl⟩
theorem vN (s:eB) (H:bp s.x.ao) (hj:s.x.ao.join=0) (hf:s.x.ao.fresh=false):VC E0 24 3 [.ptr 0 0,.sl 0 [] true] (nr s) (RR (.sl 0 [] true) 3 (nr s)):=by
 have r8:=nh s.x (by have:=H.2.2.1;omega);have tU:=tM s.x;have KZ:=FT s.x.ao H s.node;have hca:=ME s.x hj;obtain⟨node,bm,⟨Vj,⟨c1,c2,c3,c4,c5⟩,⟨ri,rj,rh,rt,JN,M5,L9,JO⟩,st,ar,base,cU,bo,known,want,comes,out⟩,rd⟩:=s;have hf:c4=false:=hf;subst hf;clear H hj;cases rt
 all_goals
  refine en L0 Tryz.f24 ?_;refine⟨[],[some 1],_,_,_,_,r8,t3,cw ?_⟩;refine⟨[],[some 1],_,_,_,_,tU,t3,cw ?_⟩;refine⟨[],[],_,_,_,_,KZ,t3,cw ?_⟩;refine⟨[],[some 1],_,_,_,_,hca,t3,cw ?_⟩;exact⟨[],[some 0,some 1,some 2],_,_,_,t3,rfl,rfl,rfl⟩
@[reducible] def abr (rd:wa):TV→Ob→Nat→Prop:=fun r o c=>(rd.l=[]∧r= .sl 0 [] true∧c=1∧o=Ix rd)∨(r= .tk 1∧c=2∧o=[(0,XT rd),(1,.arr 4 true (rd.l.map dq))])
theorem TR (rd:wa) (hl:rd.l.length<1000):VC E0 64 1 [.ptr 0 0] (Ix rd) (abr rd):=by
 have bT:=Bx rd.l om;obtain⟨last,l⟩:=rd;refine en L0 Tryz.f64 ?_
 repeat((first|(refine⟨fun h_=>?_,fun h_=>?_⟩)|(refine aA (fun h_=>?_) (fun h_=>?_))|(refine az (fun h_=>?_) (fun h_=>?_)))<;>first|(exfalso;revert h_;decide;done)|(exact absurd rfl h_)|(have bq:=True.intro;clear bq;(conv=>whnf)))
 refine⟨[],[some 1],_,_,_,_,bT,t3,?_⟩;rintro r o' c' (⟨h0,rfl,rfl,rfl⟩|⟨rfl,rfl,rfl⟩)
 ·refine wh ?_;exact⟨[],[some 0],_,_,_,t3,.inl ⟨h0,rfl,rfl,rfl⟩⟩
 ·refine wh ?_;exact⟨[],[some 0,some 3],_,_,_,t3,.inr ⟨rfl,rfl,rfl⟩⟩
@[reducible] def abt (s:eB):TV→Ob→Nat→Prop:=fun r o c=>(s.rd.l=[]∧r= .sl 0 [] true∧c=3∧o=nr s)∨(s.rd.l≠[]∧r= .tk 3∧c=4∧o=nr s++[(3,pQ (s.rd.l.map (rX s)))])
theorem zm (s:eB) (H:bp s.x.ao) (hl:s.rd.l.length<1000):VC E0 28 3 [.ptr 0 0] (nr s) (abt s):=by
 have Yy:=TR s.rd hl;have Dg:=fun r=>JY s r H;obtain⟨l,hL⟩:∃l,s.rd.l=l:=⟨_,rfl⟩;have YV:l.length<1000:=by rw[←hL];exact hl
 refine en L0 Tryz.f28 ?_;refine⟨[],[some 2],_,_,_,_,Yy,t3,?_⟩;rintro r o' c' (⟨h0,rfl,rfl,rfl⟩|⟨rfl,rfl,rfl⟩)
 ·refine wh ?_;refine⟨fun k f o c=>k=0∧c=3∧f=[(0,.ptr 0 0),(3,.sl 0 [] true),(10,.sl 0 [] true),(11,.s (.int .i64 0)),(12,.s (.int .i64 0))]∧o=nr s,⟨0,?_⟩,?_⟩
  ·exact⟨[],[some 0,some 1,some 2],_,_,_,t3,⟨rfl,rfl,rfl,rfl⟩⟩
  rintro k f1 o1 c1 ⟨rfl,rfl,rfl,rfl⟩;refine wh ?_;refine sp ?_ ?_<;>intro h
  ·exact absurd h (by decide)
  refine wh ?_;exact⟨[],[some 0,some 1,some 2],_,_,_,t3,.inl ⟨h0,rfl,rfl,rfl⟩⟩
 ·rw[hL];refine wh ?_
  refine⟨fun k f o c=>∃i:Nat,i≤l.length∧k=l.length - i∧((i=0∧c=4∧f=[(0,.ptr 0 0),(3,.sl 0 [] true),(10,.tk 3),(11,.s (.int .i64 l.length)),(12,.s (.int .i64 0))]∧o=nr s++[(3,.arr 4 true (l.map dq))])∨
   (0<i∧c=5∧f=[(0,.ptr 0 0),(3,.tk 4),(10,.tk 3),(11,.s (.int .i64 l.length)),(12,.s (.int .i64 i))]∧o=nr s++[(3,.arr 4 true (l.map dq)),(4,pQ ((l.take i).map (rX s)))])),⟨l.length,?_⟩,?_⟩
  ·refine⟨[],[some 0,some 1,some 2,some 4],?_⟩
   iterate 3 constructor
   refine⟨⟨?_,?_,?_⟩,⟨0,Nat.zero_le _,rfl,.inl ⟨rfl,rfl,rfl,rfl⟩⟩⟩
   all_goals(repeat' first|exact LF|constructor)
   all_goals exact Lz.int (by rw[List.length_map])
  rintro k f1 o1 c1 ⟨i,hi,rfl,⟨rfl,rfl,rfl,rfl⟩|⟨Jb,rfl,rfl,rfl⟩⟩
  ·refine wh ?_;refine sp ?_ ?_<;>intro h
   ·have h:0<l.length:=by omega
    refine wh ?_;refine⟨⟨om,by simp;omega⟩,dq l[0],by simp[h],?_⟩;refine wh ?_;refine⟨[],[some 0,some 1,some 2],_,_,_,_,Dg l[0],t3,cw ?_⟩;refine⟨by simp,?_⟩;refine wh ?_;refine⟨l.length - (0+1),?_,om⟩;refine⟨[],[some 0,some 1,some 2,some 3,some 9],?_⟩
    iterate 3 constructor
    refine⟨⟨?_,?_,?_⟩,⟨1,h,rfl,.inr ⟨by decide,rfl,rfl,rfl⟩⟩⟩
    all_goals(repeat' first|exact LF|constructor)
    all_goals exact Lz.of (by rw[gj l 0 h];rfl)
   ·refine wh ?_;have h0:l=[]:=by
     have h:¬(0:Int)<l.length:=h;exact List.length_eq_zero_iff.1 om
    exact⟨[],[some 0,some 1,some 2],_,_,_,t3,.inl ⟨hL.trans h0,rfl,rfl,rfl⟩⟩
  ·refine wh ?_;refine sp ?_ ?_<;>intro h
   ·have h:i<l.length:=by have h:(i:Int)<l.length:=h
                          omega
    have oL:IntKind.i64.wrap ((i:Int)+1)=((i+1:Nat):Int):=IntWalk.i64_in _ om;refine wh ?_;refine⟨⟨om,by simp;omega⟩,dq l[i],by simp[h],?_⟩;refine wh ?_;refine⟨[],[some 0,some 1,some 2],_,_,_,_,Dg l[i],t3,cw ?_⟩;refine⟨by simp;omega,?_⟩;refine wh ?_;rw[oL];refine⟨l.length - (i+1),?_,om⟩;refine⟨[],[some 0,some 1,some 2,some 3,some 10],?_⟩
    iterate 3 constructor
    refine⟨⟨?_,?_,?_⟩,⟨i+1,h,rfl,.inr ⟨om,rfl,rfl,rfl⟩⟩⟩
    all_goals(repeat' first|exact LF|constructor)
    all_goals exact Lz.of (by rw[gj l i h,List.map_append,List.map_append];rfl)
   ·have h:¬(i:Int)<l.length:=h;obtain rfl:i=l.length:=by omega
    refine wh ?_;refine⟨[],[some 0,some 1,some 2,some 4],?_⟩
    iterate 3 constructor
    refine⟨⟨?_,?_,?_⟩,.inr ⟨by rw[hL];intro e;rw[e]at Jb;exact absurd Jb (by decide),rfl,rfl,rfl⟩⟩
    all_goals(repeat' first|exact LF|constructor)
    all_goals exact Lz.of (by rw[List.take_length,hL])
theorem FU (n:Nat) (h0:0<n) (hn:n<1000000):VC E0 63 0 [.sl 0 [] true,.s (.int .i64 n)] [] (fun r o c=>∃es:List (List TV),r= .pv 0 0∧c=1∧o=[(0,.arr 25 true es)]∧es.length=n):=by
 refine en L0 Tryz.f63 ?_;refine sp ?_ ?_<;>intro h
 ·have h:(n:Int)<0:=h;omega
 ·refine wh ?_;have hw:IntKind.i64.wrap ((n:Int) - IntKind.i64.wrap (0 - ((([]:List (List TV)).length:Nat):Int)))=(n:Int):=by
   rw[show IntKind.i64.wrap (0 - ((([]:List (List TV)).length:Nat):Int))=0 from rfl,IntWalk.i64_in _ om];omega
  rw[hw];refine sp ?_ ?_<;>intro h2
  ·refine wh ?_;refine⟨by decide,?_⟩;refine wh ?_;refine⟨om,?_⟩;refine wh ?_;refine⟨⟨by simp,by simp,by simp⟩,.inr ?_⟩;refine wh ?_;exact⟨[],[some 0],_,_,_,t3,_,rfl,rfl,rfl,by simp⟩
  ·exact absurd (show(0:Int)<(n:Int) by omega) h2
theorem FV (a b:List Lr) (ha:a≠[]) (_:b≠[]) (hn:a.length+b.length<1000000):VC E0 27 0 [.sl 1 [[.sl 25 (a.map aE) false],[.sl 25 (b.map aE) false]] false] [] (RR (.tk 0) 1 [(0,pQ (a++b))]):=by
 have ha0:0<a.length:=List.length_pos_iff.2 ha;refine VC.bE L0 (show E0.func 27=some Tryz.f27 by kernel_rfl) (fun _ _=>rfl) rfl rfl [999999] ?_;refine wh ?_;refine sp ?_ ?_<;>intro t0;rotate_left
 ·exact absurd (show(0:Int)<(2:Int) by decide) t0
 refine wh ?_;refine⟨_,⟨by decide,rfl⟩,?_⟩;refine wh ?_;rw[show IntKind.i64.wrap (0+(((a.map aE).length:Nat):Int))=(a.length:Int)from by rw[List.length_map,IntWalk.i64_in _ om];omega];refine sp ?_ ?_<;>intro n0
 ·have n0:(a.length:Int)<0:=n0;omega
 refine wh ?_;refine sp ?_ ?_<;>intro t1;rotate_left
 ·exact absurd (show IntKind.i64.wrap (0+1)<(2:Int) by decide) t1
 refine wh ?_;refine⟨_,⟨by decide,rfl⟩,?_⟩;refine wh ?_;rw[show IntKind.i64.wrap ((a.length:Int)+(((b.map aE).length:Nat):Int))=((a.length+b.length:Nat):Int)from by simp only[List.length_map];rw[IntWalk.i64_in _ om];omega];refine sp ?_ ?_<;>intro n1
 ·have n1:((a.length+b.length:Nat):Int)<0:=n1;omega
 refine wh ?_;refine sp ?_ ?_<;>intro t2
 ·exact absurd t2 (show¬(IntKind.i64.wrap (IntKind.i64.wrap (0+1)+1)<(2:Int)) by decide)
 refine wh ?_;refine⟨[],[],_,_,_,_,FU (a.length+b.length) om om,t3,?_⟩;rintro r o' c' ⟨es,rfl,rfl,rfl,Du⟩;refine wh ?_;refine sp ?_ ?_<;>intro u0;rotate_left
 ·exact absurd (show(0:Int)<(2:Int) by decide) u0
 refine wh ?_;refine⟨_,⟨by decide,rfl⟩,?_⟩;refine wh ?_;refine⟨⟨Nat.zero_le _,by simp;omega,by simpa using ha⟩,?_⟩;refine wh ?_;refine sp ?_ ?_<;>intro u1;rotate_left
 ·exact absurd (show IntKind.i64.wrap (0+1)<(2:Int) by decide) u1
 refine wh ?_;refine⟨_,⟨by decide,rfl⟩,?_⟩;refine wh ?_;refine⟨by simp;omega,?_⟩;refine wh ?_;refine sp ?_ ?_<;>intro u2
 ·exact absurd u2 (show¬(IntKind.i64.wrap (IntKind.i64.wrap (0+1)+1)<(2:Int)) by decide)
 refine wh ?_;refine⟨[],[some 2],?_⟩
 iterate 3 constructor
 refine⟨⟨?_,?_,?_⟩,rfl,rfl,rfl⟩
 all_goals(repeat' first|exact LF|constructor)
 all_goals exact Lz.of (by simp)
theorem FW (a b:List Lr) (ha:a≠[]) (hb:b=[]) (hn:a.length+b.length<1000000):VC E0 27 0 [.sl 1 [[.sl 25 (a.map aE) false],[.sl 0 [] false]] false] [] (RR (.tk 0) 1 [(0,pQ (a++b))]):=by
 have ha0:0<a.length:=List.length_pos_iff.2 ha;have wU:b.length=0:=by rw[hb];rfl
 refine VC.bE L0 (show E0.func 27=some Tryz.f27 by kernel_rfl) (fun _ _=>rfl) rfl rfl [999999] ?_;refine wh ?_;refine sp ?_ ?_<;>intro t0;rotate_left
 ·exact absurd (show(0:Int)<(2:Int) by decide) t0
 refine wh ?_;refine⟨_,⟨by decide,rfl⟩,?_⟩;refine wh ?_;rw[show IntKind.i64.wrap (0+(((a.map aE).length:Nat):Int))=(a.length:Int)from by rw[List.length_map,IntWalk.i64_in _ om];omega];refine sp ?_ ?_<;>intro n0
 ·have n0:(a.length:Int)<0:=n0;omega
 refine wh ?_;refine sp ?_ ?_<;>intro t1;rotate_left
 ·exact absurd (show IntKind.i64.wrap (0+1)<(2:Int) by decide) t1
 refine wh ?_;refine⟨_,⟨by decide,rfl⟩,?_⟩;refine wh ?_;rw[show IntKind.i64.wrap ((a.length:Int)+((([]:List (List TV)).length:Nat):Int))=((a.length+b.length:Nat):Int)from by simp only[List.length_nil];rw[IntWalk.i64_in _ om];omega];refine sp ?_ ?_<;>intro n1
 ·have n1:((a.length+b.length:Nat):Int)<0:=n1;omega
 refine wh ?_;refine sp ?_ ?_<;>intro t2
 ·exact absurd t2 (show¬(IntKind.i64.wrap (IntKind.i64.wrap (0+1)+1)<(2:Int)) by decide)
 refine wh ?_;refine⟨[],[],_,_,_,_,FU (a.length+b.length) om om,t3,?_⟩;rintro r o' c' ⟨es,rfl,rfl,rfl,Du⟩;refine wh ?_;refine sp ?_ ?_<;>intro u0;rotate_left
 ·exact absurd (show(0:Int)<(2:Int) by decide) u0
 refine wh ?_;refine⟨_,⟨by decide,rfl⟩,?_⟩;refine wh ?_;refine⟨⟨Nat.zero_le _,by simp;omega,by simpa using ha⟩,?_⟩;refine wh ?_;refine sp ?_ ?_<;>intro u1;rotate_left
 ·exact absurd (show IntKind.i64.wrap (0+1)<(2:Int) by decide) u1
 refine wh ?_;refine⟨_,⟨by decide,rfl⟩,?_⟩;refine wh ?_;refine⟨by simp;omega,?_⟩;refine wh ?_;refine sp ?_ ?_<;>intro u2
 ·exact absurd u2 (show¬(IntKind.i64.wrap (IntKind.i64.wrap (0+1)+1)<(2:Int)) by decide)
 refine wh ?_;refine⟨[],[some 2],?_⟩
 iterate 3 constructor
 refine⟨⟨?_,?_,?_⟩,rfl,rfl,rfl⟩
 all_goals(repeat' first|exact LF|constructor)
 all_goals exact Lz.of (by simp[hb])
@[reducible] def zn (s:eB):Lr:=⟨10,s.node,101,s.x.ao.chain,0,0,0,0,0,0,0,[],[],0⟩
@[reducible] def FX (s:eB):List Lr:=((aV s.x).out++[zn s])++(if s.x.role.tail=true then []else s.rd.l.map (rX s))
@[reducible] def J0 (s:eB):eB:=⟨s.node,s.bm+1,bG (aV s.x),s.rd⟩
theorem MF {a b:Int} (ha:0≤a) (hb:0<b):NT .rem .i64 .i64 a b=some (.int .i64 (a % b)):=by
 show eG (Go.binOp .rem 0 (.int .i64 a) (.int .i64 b))=_;simp only[Go.binOp,Op.intDiv];rw[Int.tmod_eq_emod_of_nonneg ha];simp[show b≠0 by omega];rfl
theorem Qs (s:eB) (H:bp s.x.ao) (hj:s.x.ao.join=0) (hf:s.x.ao.fresh=false) (AA:0≤s.bm∧s.bm≤1000000) (ho:s.x.out=[]) (hl:s.rd.l.length<1000) (hx:VC E0 22 1 [.ptr 0 0] (gX s.x) (JP s.x)) (hol:(aV s.x).out.length≤3000):
 VC E0 7 3 [.ptr 0 0,.sl 0 [] true] (nr s) (RR (.tk 3) 4 (nr (J0 s)++[(3,pQ (FX s))])):=by
 have Io:¬s.x.ao.aJ=0:=by have:=H.2.1;omega
 have oN:s.x.ao.nodes.length<1000000:=by have:=H.2.2.1;omega
 have hw:IntKind.i64.wrap (s.bm+1)=s.bm+1:=IntWalk.i64_in _ om;have KT:fY s.x (aV s.x):=by
  unfold aV;split
  ·exact .refl _
  split
  ·exact nb _
  ·exact .refl _
 have rz:(aV s.x).ao=s.x.ao:=KT.ao;have RW:(aV s.x).role=s.x.role:=KT.role;have hT2:∀(S2:eB) (ol w:List Lr),S2.node=s.node→S2.bm=s.bm+1→S2.x=bG (aV s.x)→S2.rd=s.rd→ol=(aV s.x).out→w=(if S2.x.role.tail=true then []else S2.rd.l.map (rX S2))→nr (J0 s)++[(3,pQ (FX s))]=nr S2++[(3,pQ ((ol++[zn S2])++w))]:=fun S2 ol w e1 e2 e3 e4 e5 e6=>by
  obtain⟨n2,t2,x2,r2⟩:=S2;dsimp only at e1 e2 e3 e4 e6;subst e1;subst e2;subst e3;subst e4;subst e5;have e7:rX ⟨s.node,s.bm+1,bG (aV s.x),s.rd⟩=rX s:=by
   funext r
   show tI s.node (dO (aV s.x).ao) (aV s.x).ao.chain (aV s.x).ao.aJ r.token r.key=_;rw[rz]
  have e8:zn ⟨s.node,s.bm+1,bG (aV s.x),s.rd⟩=zn s:=by
   show(⟨10,s.node,101,(aV s.x).ao.chain,0,0,0,0,0,0,0,[],[],0⟩:Lr)=_;rw[rz]
  have e6:w=(if(aV s.x).role.tail=true then []else s.rd.l.map (rX ⟨s.node,s.bm+1,bG (aV s.x),s.rd⟩)):=e6;rw[e7,RW]at e6;rw[e6,e8]
 refine VC.bE L0 (show E0.func 7=some Tryz.f7 by kernel_rfl) (fun _ _=>rfl) rfl rfl [999999] ?_;refine wh ?_;rw[hw];refine⟨[],[some 1],_,_,_,_,hx,t3,?_⟩;rintro rr o' c' (⟨hs0,rfl,rfl,rfl⟩|⟨Dr,rfl,rfl,rfl⟩)
 ·have htx:aV s.x=s.x:=by unfold aV;rw[if_pos hs0]
  have hwx:bG s.x=s.x:=by obtain⟨node,bm,x,rd⟩:=s;obtain⟨x1,x2,x3,x4,x5,x6,x7,x8,x9,xa,xb,xc⟩:=x;cases ho;rfl
  obtain⟨w,xT⟩:∃w:List Lr,w=(if s.x.role.tail=true then []else s.rd.l.map (rX ⟨s.node,s.bm+1,s.x,s.rd⟩)):=⟨_,rfl⟩;rw[hT2 ⟨s.node,s.bm+1,s.x,s.rd⟩ [] w rfl rfl (by rw[htx,hwx]) rfl (by rw[htx,ho]) xT];have r8:=nh s.x oN;have KZ:=vN ⟨s.node,s.bm+1,s.x,s.rd⟩ H hj hf;have ly:=tN ⟨s.node,s.bm+1,s.x,s.rd⟩ {Q6 with kind:=10,chain:=s.x.ao.chain} 101 oN;rw[show Qn ⟨s.node,s.bm+1,s.x,s.rd⟩ {Q6 with kind:=10,chain:=s.x.ao.chain} 101=zn ⟨s.node,s.bm+1,s.x,s.rd⟩from if_neg (by show¬((10:Int)=15∨(10:Int)=16);decide)]at ly;have tU:=tM s.x;have XV:=zm ⟨s.node,s.bm+1,s.x,s.rd⟩ H hl;clear hT2 hx hol KT rz RW
  refine wh ?_;refine⟨[],[some 1],_,_,_,_,r8,t3,cw ?_⟩;refine sp ?_ ?_<;>intro h0
  ·exact absurd h0 Io
  refine wh ?_;refine⟨[],[some 0,some 1,some 2],_,_,_,_,KZ,t3,cw ?_⟩;refine sp ?_ ?_<;>intro l0
  ·exact absurd l0 (by decide)
  refine wh ?_;refine⟨[],[some 0,some 1,some 2],_,_,_,_,ly,⟨by((repeat' first|exact LF|constructor);all_goals(exact Lz.int (by show IntKind.i64.wrap (IntKind.i64.wrap (100+(s.bm+1).tmod 1)+1)=101;rw[Int.tmod_one];rfl))),by((repeat' first|exact LF|constructor);all_goals(exact Lz.int (by show IntKind.i64.wrap (IntKind.i64.wrap (100+(s.bm+1).tmod 1)+1)=101;rw[Int.tmod_one];rfl))),by rfl⟩,?_⟩;rintro r o' c' ⟨rfl,rfl,rfl⟩;refine wh ?_;refine⟨by simp<;>omega,?_⟩;refine wh ?_;refine⟨[],[some 1],_,_,_,_,tU,t3,cw ?_⟩;refine sp ?_ ?_<;>intro ht
  ·obtain rfl:w=[]:=xT.trans (if_pos ht);refine wh ?_;refine⟨[],[some 0,some 1,some 2,some 13],?_⟩
   iterate 3 constructor
   refine⟨⟨?_,?_,?_⟩,rfl,rfl,rfl⟩
   all_goals(repeat' first|exact LF|constructor)
   all_goals exact Lz.of (by rw[List.append_nil,List.map_append];rfl)
  have ht:¬(s.x.role).tail=true:=by rw[ht];exact Bool.noConfusion
  have Fu:=xT.trans (if_neg ht);refine wh ?_;refine⟨[],[some 0,some 1,some 2],_,_,_,_,XV,t3,?_⟩;rintro rr o' c' (⟨qE,rfl,rfl,rfl⟩|⟨zF,rfl,rfl,rfl⟩)
  ·have qE:s.rd.l=[]:=qE;obtain rfl:w=[]:=by rw[Fu,qE];rfl
   refine wh ?_;refine⟨[18],[],_,_,_,_,FW ([]++[zn ⟨s.node,s.bm+1,s.x,s.rd⟩]) [] (by simp) rfl (by simp<;>omega),⟨by((repeat' first|exact LF|constructor);all_goals(exact Lz.of (by rw[List.map_append];rfl))),by((repeat' first|exact LF|constructor);all_goals(exact Lz.of (by rw[List.map_append];rfl))),by rfl⟩,?_⟩;rintro r o' c' ⟨rfl,rfl,rfl⟩;refine wh ?_;exact⟨[],[some 0,some 1,some 2,some 19],_,_,_,t3,rfl,rfl,rfl⟩
  ·obtain rfl:w=_:=Fu;refine wh ?_;refine⟨[19],[],_,_,_,_,FV ([]++[zn ⟨s.node,s.bm+1,s.x,s.rd⟩]) (s.rd.l.map (rX ⟨s.node,s.bm+1,s.x,s.rd⟩)) (by simp) (fun e=>zF (List.map_eq_nil_iff.1 e)) (by simp<;>omega),⟨by((repeat' first|exact LF|constructor);all_goals(exact Lz.of (by rw[List.map_append];rfl))),by((repeat' first|exact LF|constructor);all_goals(exact Lz.of (by rw[List.map_append];rfl))),by rfl⟩,?_⟩;rintro r o' c' ⟨rfl,rfl,rfl⟩;refine wh ?_;exact⟨[],[some 0,some 1,some 2,some 20],_,_,_,t3,rfl,rfl,rfl⟩
 ·obtain⟨w,xT⟩:∃w:List Lr,w=(if(aV s.x).role.tail=true then []else s.rd.l.map (rX ⟨s.node,s.bm+1,bG (aV s.x),s.rd⟩)):=⟨_,rfl⟩;rw[hT2 ⟨s.node,s.bm+1,bG (aV s.x),s.rd⟩ _ w rfl rfl rfl rfl rfl xT];have H2:bp (aV s.x).ao:=by rw[rz];exact H
  have Io:¬(aV s.x).ao.aJ=0:=by rw[rz];exact Io
  have abw:(aV s.x).ao.nodes.length<1000000:=by rw[rz];exact oN
  have r8:=nh (bG (aV s.x)) abw;have KZ:=vN ⟨s.node,s.bm+1,bG (aV s.x),s.rd⟩ H2 (by show(aV s.x).ao.join=0;rw[rz];exact hj) (by show(aV s.x).ao.fresh=false;rw[rz];exact hf);have ly:=tN ⟨s.node,s.bm+1,bG (aV s.x),s.rd⟩ {Q6 with kind:=10,chain:=(aV s.x).ao.chain} 101 abw;rw[show Qn ⟨s.node,s.bm+1,bG (aV s.x),s.rd⟩ {Q6 with kind:=10,chain:=(aV s.x).ao.chain} 101=zn ⟨s.node,s.bm+1,bG (aV s.x),s.rd⟩from if_neg (by show¬((10:Int)=15∨(10:Int)=16);decide)]at ly;have tU:=tM (bG (aV s.x));have XV:=zm ⟨s.node,s.bm+1,bG (aV s.x),s.rd⟩ H2 hl;clear hT2 hx KT rz RW;generalize aV s.x=y at*
  refine wh ?_;refine⟨[],[some 1],_,_,_,_,r8,t3,cw ?_⟩;refine sp ?_ ?_<;>intro h0
  ·exact absurd h0 Io
  refine wh ?_;refine⟨[],[some 0,some 1,some 2],_,_,_,_,KZ,t3,cw ?_⟩;refine sp ?_ ?_<;>intro l0
  ·exact absurd l0 (by decide)
  refine wh ?_;refine⟨[],[some 0,some 1,some 2],_,_,_,_,ly,⟨by((repeat' first|exact LF|constructor);all_goals(exact Lz.int (by show IntKind.i64.wrap (IntKind.i64.wrap (100+(s.bm+1).tmod 1)+1)=101;rw[Int.tmod_one];rfl))),by((repeat' first|exact LF|constructor);all_goals(exact Lz.int (by show IntKind.i64.wrap (IntKind.i64.wrap (100+(s.bm+1).tmod 1)+1)=101;rw[Int.tmod_one];rfl))),by rfl⟩,?_⟩;rintro r o' c' ⟨rfl,rfl,rfl⟩;refine wh ?_;refine⟨by simp<;>omega,?_⟩;refine wh ?_;refine⟨[],[some 1],_,_,_,_,tU,t3,cw ?_⟩;refine sp ?_ ?_<;>intro ht
  ·obtain rfl:w=[]:=xT.trans (if_pos ht);refine wh ?_;refine⟨[],[some 0,some 1,some 2,some 14],?_⟩
   iterate 3 constructor
   refine⟨⟨?_,?_,?_⟩,rfl,rfl,rfl⟩
   all_goals(repeat' first|exact LF|constructor)
   all_goals exact Lz.of (by rw[List.append_nil,List.map_append];rfl)
  have ht:¬(y.role).tail=true:=by rw[ht];exact Bool.noConfusion
  have Fu:=xT.trans (if_neg ht);refine wh ?_;refine⟨[],[some 0,some 1,some 2],_,_,_,_,XV,t3,?_⟩;rintro rr o' c' (⟨qE,rfl,rfl,rfl⟩|⟨zF,rfl,rfl,rfl⟩)
  ·have qE:s.rd.l=[]:=qE;obtain rfl:w=[]:=by rw[Fu,qE];rfl
   refine wh ?_;refine⟨[19],[],_,_,_,_,FW (y.out++[zn ⟨s.node,s.bm+1,bG y,s.rd⟩]) [] (by simp) rfl (by simp<;>omega),⟨by((repeat' first|exact LF|constructor);all_goals(exact Lz.of (by rw[List.map_append];rfl))),by((repeat' first|exact LF|constructor);all_goals(exact Lz.of (by rw[List.map_append];rfl))),by rfl⟩,?_⟩;rintro r o' c' ⟨rfl,rfl,rfl⟩;refine wh ?_;exact⟨[],[some 0,some 1,some 2,some 20],_,_,_,t3,rfl,rfl,rfl⟩
  ·obtain rfl:w=_:=Fu;refine wh ?_;refine⟨[20],[],_,_,_,_,FV (y.out++[zn ⟨s.node,s.bm+1,bG y,s.rd⟩]) (s.rd.l.map (rX ⟨s.node,s.bm+1,bG y,s.rd⟩)) (by simp) (fun e=>zF (List.map_eq_nil_iff.1 e)) (by simp<;>omega),⟨by((repeat' first|exact LF|constructor);all_goals(exact Lz.of (by rw[List.map_append];rfl))),by((repeat' first|exact LF|constructor);all_goals(exact Lz.of (by rw[List.map_append];rfl))),by rfl⟩,?_⟩;rintro r o' c' ⟨rfl,rfl,rfl⟩;refine wh ?_;exact⟨[],[some 0,some 1,some 2,some 21],_,_,_,t3,rfl,rfl,rfl⟩
def DA (m:Lr):Bool:=decide (m.kind=12∨m.kind=13)
def sv (all:List eB) (j:Int):eB:=(all[(j - 1).toNat]?).getD ⟨0,0,abk 0,⟨0,[]⟩⟩
theorem zo (all:List eB) (j:Int):nd (all.map eB.x) j=(sv all j).x:=by
 unfold nd sv;rw[List.getElem?_map];cases all[(j - 1).toNat]? <;>rfl
theorem gg {all:List eB} {j k:Int} {y:eB} (hj:1≤j∧j≤all.length) (hk:1≤k):sv (all.set (j - 1).toNat y) k=if k=j then y else sv all k:=by
 unfold sv;by_cases e:k=j
 ·subst e;rw[if_pos rfl,List.getElem?_set_self om];rfl
 ·rw[if_neg e,List.getElem?_set_ne om]
theorem XW {all:List eB} {j:Int} (h:1≤j∧j≤all.length):all[(j - 1).toNat]? =some (sv all j):=by
 unfold sv;rw[List.getElem?_eq_getElem om];rfl
structure ig where
 num:Int
 key:Int
 d0:Int
 d1:Int
 d2:Int
def ig.at_ (a:ig) (k:Int):Int:=if k=0 then a.d0 else if k=1 then a.d1 else a.d2
structure RdI (A:List ig) (num:Int) (rd:wa):Prop where
 last:0≤rd.last∧rd.last≤num
 tok:∀r∈rd.l,1≤r.token∧r.token≤rd.last
 cl:∀r∈rd.l,r.aj=2∨r.aj=3
 nodup:(rd.l.map Rd.aj).Nodup
 FY:zl rd.l
 ask:∀r∈rd.l,∃a∈A,a.num=r.num∧a.key=r.key
def LA (n:Int) (G:List bd) (A:List ig) (rd:Int→wa) (m:Lr):Prop:=
 (∃j t k,m=tI j n 0 1 t k∧(1≤j∧j≤n)∧t≤(rd j).last∧(0≤k∧k≤2))∨
 (∃j t k v,m=tW n j 0 1 t k v∧(1≤j∧j<n)∧t≤(rd j).last∧(0≤k∧k≤2)∧(0≤v∧v≤vk k G)∧∀r∈(rd j).l,r.token=t→r.key=k→∀a∈A,a.num=r.num→a.at_ k≤v)
structure TT (G:List bd) (num:Int) (a:ig):Prop where
 num:1≤a.num∧a.num≤num
 key:0≤a.key∧a.key≤2
 at_:∀k,0≤k→k≤2→a.at_ k≤vk k G
structure c7 (n:Nat) (T:Int) (all:List eB) (said:List Lr) (A:List ig) (num:Int) (g:Int→List bd):Prop where
 n4:n∈[1,2,3,4]
 ci:gJ n ⟨b8 n,all.map eB.x,said.filter DA,num⟩ g
 nd:∀j:Int,1≤j→j≤n→(sv all j).node=j∧0≤(sv all j).bm∧(sv all j).bm≤T
 rd:∀j:Int,1≤j→j≤n→RdI A num (sv all j).rd
 asks:∀a∈A,TT (g n) num a
 uniq:A.Pairwise fun a b=>a.num<b.num
 said:∀m∈said,DA m=true∨LA n (g n) A (fun j=>(sv all j).rd) m
theorem ju:∀n∈[1,2,3,4],bp (b8 n)∧dO (b8 n)=n∧(b8 n).chain=0∧(b8 n).aJ=1∧(b8 n).join=0∧(b8 n).fresh=false∧∀i<n,((i:Int)+1)∈(b8 n).nodes∧(aD (b8 n) ((i:Int)+1)).m7=true∧(aD (b8 n) ((i:Int)+1)).tail=decide (i+1=n)∧(aD (b8 n) ((i:Int)+1)).head=decide (i=0):=by decide+kernel
section
variable {n:Nat} {T:Int} {all:List eB} {said:List Lr} {A:List ig} {num:Int} {g:Int→List bd}
theorem c7.len (I:c7 n T all said A num g):all.length=n:=by
 have:=I.ci.len
 rwa [List.length_map]at this
theorem c7.M8 (I:c7 n T all said A num g):1≤n∧n≤4:=by
 have:=I.n4;simp at this;omega
theorem fD {n:Nat} (h:n∈[1,2,3,4]) {j:Int} (h1:1≤j) (h2:j≤n):j∈(b8 n).nodes∧(aD (b8 n) j).m7=true∧(aD (b8 n) j).tail=decide (j=n)∧(aD (b8 n) j).head=decide (j=1):=by
 obtain⟨_,_,_,_,_,_,hf⟩:=ju n h;have hh:=hf (j - 1).toNat om;have e:((j - 1).toNat:Int)+1=j:=by omega
 rw[e]at hh;refine⟨hh.1,hh.2.1,?_,?_⟩
 ·rw[hh.2.2.1];exact decide_eq_decide.2 om
 ·rw[hh.2.2.2];exact decide_eq_decide.2 om
theorem c7.ni (I:c7 n T all said A num g) {j:Int} (h1:1≤j) (h2:j≤n):NI (b8 n) j num (g j) (sv all j).x∧(sv all j).x.out=[]∧((g j).length:Int)≤num:=by
 have:=I.ci.ni j (fD I.n4 h1 h2).1;simp only[zo]at this;exact this
theorem c7.go (I:c7 n T all said A num g) {j:Int} (h1:1≤j) (h2:j≤n) {s':eB} {cV ms:List Lr} {A':List ig} {ot T':Int} {g':Int→List bd}
 (ci:gJ n ⟨b8 n,(all.set (j - 1).toNat s').map eB.x,(cV++ms.filter (fun m:Lr=>decide (m.to≤(n:Int)))).filter DA,ot⟩ g') (hg:g n<+:g' n) (hs:∀m∈cV,m∈said)
 (hn:s'.node=j∧0≤s'.bm∧s'.bm≤T') (hT:T≤T') (aeJ:num≤ot) (hA:∀a∈A',a∈A∨(num<a.num∧TT (g' n) ot a)) (iO:∀a∈A,a∈A') (hu:A'.Pairwise fun a b=>a.num<b.num)
 (fP:RdI A' ot s'.rd) (Qt:(sv all j).rd.last≤s'.rd.last) (hold:∀r∈s'.rd.l,r.token≤(sv all j).rd.last→r∈(sv all j).rd.l)
 (gN:∀m∈ms,m.to≤n→DA m=true∨LA n (g' n) A' (fun i=>if i=j then s'.rd else(sv all i).rd) m):
 c7 n T' (all.set (j - 1).toNat s') (cV++ms.filter (fun m:Lr=>decide (m.to≤(n:Int)))) A' ot g':=by
 have hlen:=I.len;have Dp:=I.M8;have qg:∀i,1≤i→sv (all.set (j - 1).toNat s') i=if i=j then s' else sv all i:=fun i hi=>gg om hi
 have Uo:=fD I.n4 (j:=n) om (Int.le_refl _);have N':=(ci.ni n Uo.1).1;have mono:∀k,vk k (g n)≤vk k (g' n):=fun k=>wP N'.M0 k _ rfl N'.log hg;have aeK:∀a∈A,TT (g' n) ot a:=fun a ha=>by
  obtain⟨a1,a2,a3⟩:=I.asks a ha;exact⟨om,a2,fun k hk qk=>Int.le_trans (a3 k hk qk) (mono k)⟩
 refine⟨I.n4,ci,fun i hi Zk=>?_,fun i hi Zk=>?_,fun a ha=>?_,hu,fun m hm=>?_⟩
 ·rw[qg i hi];split
  ·rename_i e;rw[e];exact hn
  ·have:=I.nd i hi Zk;exact⟨this.1,this.2.1,om⟩
 ·rw[qg i hi];split
  ·exact fP
  ·obtain⟨r1,r2,r3,r4,r5,r6⟩:=I.rd i hi Zk;exact⟨om,r2,r3,r4,r5,fun r hr=>by obtain⟨a,ha,e⟩:=r6 r hr;exact⟨a,iO a ha,e⟩⟩
 ·rcases hA a ha with q|q
  ·exact aeK a q
  ·exact q.2
 ·have MG:∀i,1≤i→(sv (all.set (j - 1).toNat s') i).rd=if i=j then s'.rd else(sv all i).rd:=fun i hi=>by
   rw[qg i hi];split<;>rfl
  rcases List.mem_append.1 hm with q|q
  ·rcases I.said m (hs m q)with r|⟨i,t,k,e,h3,h4,h5⟩|⟨i,t,k,v,e,h3,h4,h5,h6,h7⟩
   ·exact .inl r
   ·refine .inr (.inl ⟨i,t,k,e,h3,?_,h5⟩);show t≤(sv (all.set (j - 1).toNat s') i).rd.last;rw[MG i h3.1];split
    ·rename_i e2;subst e2;exact Int.le_trans h4 Qt
    ·exact h4
   ·refine .inr (.inr ⟨i,t,k,v,e,h3,?_,h5,⟨h6.1,Int.le_trans h6.2 (mono k)⟩,?_⟩)
    ·show t≤(sv (all.set (j - 1).toNat s') i).rd.last;rw[MG i h3.1];split
     ·rename_i e2;subst e2;exact Int.le_trans h4 Qt
     ·exact h4
    ·show∀r∈(sv (all.set (j - 1).toNat s') i).rd.l,_;rw[MG i h3.1];have key:∀r∈(sv all i).rd.l,r.token=t→r.key=k→∀a∈A',a.num=r.num→a.at_ k≤v:=fun r hr ht hk a ha hn=>by
      rcases hA a ha with qa|qa
      ·exact h7 r hr ht hk a qa hn
      ·obtain⟨a0,ha0,e0,_⟩:=(I.rd i h3.1 om).ask r hr;have:=(I.asks a0 ha0).num;omega
     split
     ·rename_i e2;subst e2;intro r hr ht hk a ha hn;exact key r (hold r hr (by have h4:t≤(sv all i).rd.last:=h4;omega)) ht hk a ha hn
     ·exact key
  ·obtain⟨q1,q2⟩:=List.mem_filter.1 q;rcases gN m q1 (of_decide_eq_true q2)with r|⟨i,t,k,e,h3,h4,h5⟩|⟨i,t,k,v,e,h3,h4,h5,h6,h7⟩
   ·exact .inl r
   ·refine .inr (.inl ⟨i,t,k,e,h3,?_,h5⟩);show t≤(sv (all.set (j - 1).toNat s') i).rd.last;rw[MG i h3.1];exact h4
   ·refine .inr (.inr ⟨i,t,k,v,e,h3,?_,h5,h6,?_⟩)
    ·show t≤(sv (all.set (j - 1).toNat s') i).rd.last;rw[MG i h3.1];exact h4
    ·show∀r∈(sv (all.set (j - 1).toNat s') i).rd.l,_;rw[MG i h3.1];exact h7
def Vl (A:List ig) (G:List bd) (m:Lr):Prop:=m.kind=20→(0≤m.key∧m.key≤2)∧(∃a∈A,a.num=m.num∧a.key=m.key)∧∀a∈A,a.num=m.num→a.key=m.key→a.at_ m.key≤m.bA∧m.bA≤vk m.key G
theorem Di (I:c7 n T all said A num g) {j:Int} (h1:1≤j) (h2:j≤n) (k:Int):(ba (cE (sv all j).x.st k)).bA=vk k (g j):=(I.ni h1 h2).1.st.last k
theorem c7.J1 (I:c7 n T all said A num g) {j:Int} (h1:1≤j) (h2:j≤n):g n<+:g j∧(sv all j).x.ar.done≤(g n).length:=by
 have Dp:=I.M8;obtain⟨N,_,_⟩:=I.ni (j:=n) om (Int.le_refl _);by_cases e:j=n
 ·subst e;exact⟨List.prefix_refl _,N.ar.de⟩
 ·have hj:=(fD I.n4 h1 h2).1;have Uo:=(fD I.n4 (j:=n) om (Int.le_refl _)).1;have hA:Mu (b8 n).nodes j n:=by
   have oQ:(b8 n).nodes=(List.range n).map fun(i:Nat)=>(i:Int)+1:=rfl;refine⟨(j - 1).toNat,n - 1,om,?_,?_⟩
   ·rw[oQ,List.getElem?_map,List.getElem?_range om];show some (((j - 1).toNat:Int)+1)=_;rw[show((j - 1).toNat:Int)+1=j by omega]
   ·rw[oQ,List.getElem?_map,List.getElem?_range om];show some (((n - 1:Nat):Int)+1)=_;rw[show((n - 1:Nat):Int)+1=n by omega]
  have h:=I.ci.ah j n hA;simp only[zo]at h;exact⟨h.1,Int.le_trans h.2 N.ar.de⟩
end
theorem gJ.less {n:Nat} {c:CF} {all:List RS} {said cV:List Lr} {num:Int} {g:Int→List bd} (I:gJ n ⟨c,all,said,num⟩ g) (h:∀m∈cV,m∈said):gJ n ⟨c,all,cV,num⟩ g:=
 ⟨I.pl,I.len,I.Ts,I.num,I.ni,I.ah,I.nx,I.k0,fun m hm=>I.said m (h m hm)⟩
theorem gJ.later {n:Nat} {c:CF} {all:List RS} {said:List Lr} {num ot:Int} {g:Int→List bd} (I:gJ n ⟨c,all,said,num⟩ g) (h:num≤ot):gJ n ⟨c,all,said,ot⟩ g:=
 ⟨I.pl,I.len,I.Ts,Int.le_trans I.num h,fun j hj=>by
  obtain⟨N,h1,h2⟩:=I.ni j hj;exact⟨N.mono h,h1,Int.le_trans h2 h⟩,I.ah,I.nx,I.k0,I.said⟩
section
variable {n:Nat} {w:CS} {g:Int→List bd}
theorem gJ.write (I:gJ n w g) (hb:w.num≤1000) {u:bd} (hu:∀s,UG (w.num+1) {u with seq:=s}) (Vg:u.seq=0) (hun:w.num<u.num) {f:Int} (hf:201≤f∧f≤206) {j:Int} (hh:w.c.nodes[0]? =some j):
 ∃y L',VC E0 17 1 [.ptr 0 0,.agg (aE (wJ f j w.c.chain w.c.aJ [u]))] (gX (nd w.all j)) (qQ y)∧y.out.length≤3000∧gJ n ⟨w.c,w.all.set (j - 1).toNat (bG y),w.said++y.out,w.num+1⟩ (fun i=>if i=j then L' else g i)∧g j<+:L':=by
 have hj:=List.mem_of_getElem? hh;obtain⟨N0,ho,hl⟩:=I.ni j hj;have mK:=I.num;have N:NI w.c j (w.num+1) (g j) (nd w.all j):=N0.mono om;have XI:bV (nd w.all j).st.t u.aj u.num=0:=N0.sg.fresh (hu 0).aj hun mK;obtain⟨L',A,hL,q1,q2,q3⟩:=N.write (hu _) XI;have hnp:∀p,¬zd w.c.nodes p j:=fun p ⟨i,_,h2⟩=>by
  have h3:=oj I.pl.nodup h2;have h4:=oj I.pl.nodup hh;omega
 have Wc:(aD w.c j).head=true:=by rw[I.pl.role hh];rfl
 have YV:(L'.length:Int)≤w.num+1:=by
  rcases hL with rfl |rfl
  ·omega
  ·rw[List.length_append];simp;omega
 have Vh:=A.len;rw[ho]at Vh;refine⟨gG (nd w.all j) u,_,?_,?_,I.op hj om A YV (fun p hp=>absurd hp (hnp p)) (fun b hb=>?_) (fun b hb=>?_) (by rw[q1,q2];exact I.k0 j hj) (fun m h=>h),A.pre⟩
 ·exact N.aeE I.pl hj (I.hc hj) om om ho hf (hu _) Vg Wc XI
 ·simp only[List.length_nil,Nat.zero_add]at Vh;omega
 ·rw[q3 (hb.role I.pl).2.2.1];exact(I.ah _ _ hb.M6).2
 ·rw[q1,q2,q3 (hb.role I.pl).2.2.1];exact I.nx _ _ hb
end
theorem XX:∀n∈[1,2,3,4],bp (b8 n)∧(b8 n).nodes.Nodup∧(∀j∈(b8 n).nodes,1≤j∧j≤n):=by decide+kernel
theorem gJ.begun (n:Nat) (hn:n∈[1,2,3,4]):gJ n ⟨b8 n,fI n,[],0⟩ (fun _=>[]):=by
 obtain⟨h1,h2,h3⟩:=XX n hn;have hn5:n≤5:=by simp at hn;omega
 have oQ:∀j∈(b8 n).nodes,nd (fI n) j=Fj j (b8 n):=fun j hj=>by
  obtain⟨a,b⟩:=h3 j hj;unfold nd fI;rw[List.getElem?_map,List.getElem?_range om];show Fj (((j - 1).toNat:Int)+1) (b8 n)=_;rw[show((j - 1).toNat:Int)+1=j by omega]
 refine⟨⟨h1,rfl,rfl,h2,fun j hj=>by have:=h3 j hj;omega,rfl⟩,by simp[fI],fun j hj=>(h3 j hj).2,Int.le_refl _,fun j hj=>?_,fun a b Dw=>?_,fun a b Dw=>?_,fun j hj=>?_,fun m hm=>by cases hm⟩
 ·show NI _ _ _ _ (nd (fI n) j)∧(nd (fI n) j).out=[]∧_;rw[oQ j hj];exact⟨⟨rfl,rfl,rfl,rfl,rfl,⟨fun i u h=>by simp at h,fun u h=>by cases h⟩,Gs.zero,SG.zero,⟨Int.le_refl _,Int.le_refl _,Int.le_refl _,rfl⟩,⟨Int.le_refl _,Int.le_refl _⟩,Int.le_refl _⟩,rfl,Int.le_refl _⟩
 ·obtain⟨ha,hb⟩:=Dw.mem;show _∧(nd (fI n) a).ar.done≤(nd (fI n) b).ar.done;rw[oQ a ha,oQ b hb];exact⟨List.prefix_refl _,Int.le_refl _⟩
 ·obtain⟨ha,hb⟩:=Dw.mem;show((nd (fI n) a).known=true→(nd (fI n) b).base≤(nd (fI n) a).bo∧(nd (fI n) a).bo≤_)∧((nd (fI n) a).ar.done≤(nd (fI n) b).base∨_);rw[oQ a ha,oQ b hb];exact⟨fun q=>Bool.noConfusion q,.inl (Int.le_refl _)⟩
 ·show(nd (fI n) j).known=false→(nd (fI n) j).bo=0;rw[oQ j hj];exact fun _=>rfl
@[reducible] def uV (n:Nat) (ms:List Lr):List Lr:=ms.filter (fun m:Lr=>decide (m.to≤(n:Int)))
theorem MH (s:eB) (m:Lr) (hk:m.kind=12∨m.kind=13∨m.kind=17) (ly:m.to=s.node) (kr:VC E0 15 0 [.agg (aE m)] [] (RR (.s (.int .i64 0)) 0 []))
 (hx:VC E0 17 1 [.ptr 0 0,.agg (aE m)] (gX s.x) (RR (.sl 0 [] true) 1 (gX s.x))):VC E0 6 3 [.ptr 0 0,.agg (aE m)] (nr s) (tO s []):=by
 obtain⟨k,f,t,ch,e,n,sq,d,v,sl,co,us,dt,ky⟩:=m;obtain⟨node,bm,x,rd⟩:=s;have ly:t=node:=ly;subst ly;have hk:k=12∨k=13∨k=17:=hk;rcases hk with rfl |rfl |rfl
 all_goals
  refine en L0 Tryz.f6 ?_;refine⟨[],[],_,_,_,_,kr,t3,cw ?_⟩
  repeat((first|(refine⟨fun h_=>?_,fun h_=>?_⟩)|(refine aA (fun h_=>?_) (fun h_=>?_))|(refine az (fun h_=>?_) (fun h_=>?_)))<;>first|(exfalso;revert h_;decide;done)|(exfalso;revert h_;simp;done)|(have bq:=True.intro;clear bq;((conv=>whnf)<;>repeat(with_reducible refine D1 ?_)<;>conv=>whnf)))
  refine⟨[],[some 1],_,_,_,_,hx,t3,cw ?_⟩;exact⟨[],[some 0,some 1,some 2],_,_,_,t3,.inl ⟨rfl,rfl,rfl,rfl⟩⟩
theorem Qu {all:List RS} {j:Int} (h:1≤j∧j≤all.length):all[(j - 1).toNat]? =some (nd all j):=by
 unfold nd;rw[List.getElem?_eq_getElem om];rfl
theorem kF {m:Lr}:DA m=true↔m.kind=12∨m.kind=13:=by unfold DA;rw[decide_eq_true_iff]
theorem XF.kind {m:Lr} (h:XF m):m.kind=12∨m.kind=13:=by
 rcases h.2 with⟨s,d,us,e,_⟩|⟨s,d,e⟩
 ·exact .inl (by rw[e])
 ·exact .inr (by rw[e])
theorem XF.check {m:Lr} (h:XF m):VC E0 15 0 [.agg (aE m)] [] (RR (.s (.int .i64 0)) 0 []):=by
 obtain⟨⟨h1,h2,h3⟩,⟨s,d,us,e,hl,hu⟩|⟨s,d,e⟩⟩:=h
 ·have:=qp m.HZ m.to 0 m.aJ s d us h1 h2 (by decide) h3 hl;rw[if_pos hu]at this;rw[e];exact this
 ·have:=yT m.HZ m.to 0 m.aJ 0 s d 0 h1 h2 (by decide) h3 (by decide);rw[e];exact this
section
variable {n:Nat} {T:Int} {all:List eB} {said:List Lr} {A:List ig} {num:Int} {g:Int→List bd}
theorem c7.ao (I:c7 n T all said A num g) {j:Int} (h1:1≤j) (h2:j≤n):(sv all j).x.ao=b8 n∧(sv all j).x.node=j∧(sv all j).x.role=aD (b8 n) j∧(sv all j).x.cU=true:=by
 obtain⟨N,_,_⟩:=I.ni h1 h2;exact⟨N.ao,N.node,N.role,N.cU⟩
theorem c7.iB (I:c7 n T all said A num g) {j:Int} (h1:1≤j) (h2:j≤n):Go.M.iB j:=.inl (by have:=I.M8;omega)
theorem c7.less (I:c7 n T all said A num g) {cV:List Lr} (h:∀m∈cV,m∈said):c7 n T all cV A num g:=
 ⟨I.n4,I.ci.less fun m hm=>by
  obtain⟨q1,q2⟩:=List.mem_filter.1 hm;exact List.mem_filter.2 ⟨h m q1,q2⟩,I.nd,I.rd,I.asks,I.uniq,fun m hm=>I.said m (h m hm)⟩
theorem c7.ci' (_:c7 n T all said A num g) {j ot:Int} {y:RS} {s':eB} {cV ms out:List Lr} {g':Int→List bd} (hx:s'.x=y) (hs:∀m∈cV,m∈said) (hm:∀m∈ms,DA m=true→m∈out)
 (h:gJ n ⟨b8 n,(all.map eB.x).set (j - 1).toNat y,said.filter DA++out,ot⟩ g'):gJ n ⟨b8 n,(all.set (j - 1).toNat s').map eB.x,(cV++uV n ms).filter DA,ot⟩ g':=by
 rw[List.map_set,hx];refine h.less fun m hq=>?_;obtain⟨q1,q2⟩:=List.mem_filter.1 hq;rcases List.mem_append.1 q1 with q|q
 ·exact List.mem_append_left _ (List.mem_filter.2 ⟨hs m q,q2⟩)
 ·exact List.mem_append_right _ (hm m (List.mem_filter.1 q).1 q2)
theorem uW {g':Int→List bd} {aeL:List RS} {s o:List Lr} (C:gJ n ⟨b8 n,aeL,s++o,num⟩ g') {m:Lr} (hm:m∈o):(m.kind=18∧200≤m.to)∨DA m=true:=by
 rcases C.said m (List.mem_append_right _ hm)with q|q
 ·exact .inl q
 ·exact .inr (kF.2 q.1.kind)
theorem rdM {A:List ig} {num ot:Int} {rd:wa} (h:RdI A num rd) (hn:num≤ot):RdI A ot rd:=⟨⟨h.last.1,by have:=h.last.2;omega⟩,h.tok,h.cl,h.nodup,h.FY,h.ask⟩
theorem Dj {g:Int→List bd} {j:Int} {L':List bd} (h:g j<+:L') (i:Int):g i<+:(if i=j then L' else g i):=by
 split
 ·rename_i e;rw[e];exact h
 ·exact List.prefix_refl _
theorem Qv {A:List ig} {num:Int} {rd:wa} (h:RdI A num rd):rd.l.length≤2:=by
 have:(rd.l.map Rd.aj).length≤([2,3]:List Int).length:=h.nodup.length_le_of_subset fun c hc=>by
  obtain⟨r,hr,rfl⟩:=List.mem_map.1 hc;rcases h.cl r hr with e|e<;>simp[e]
 simpa using this
structure Vm (n:Nat) (T':Int) (all:List eB) (said:List Lr) (A:List ig) (num:Int) (G:List bd) (j:Int) (s':eB) (ms:List Lr):Prop where
 inv:∃g',c7 n T' (all.set (j - 1).toNat s') (said++uV n ms) A num g'∧g' n=G
 told:∀m∈ms,Vl A G m
 len:ms.length≤4000
theorem c7.tick (I:c7 n T all said A num g) (hb:num≤1000) (hT:T≤5000) {j:Int} (h1:1≤j) (h2:j≤n):
 VC E0 7 3 [.ptr 0 0,.sl 0 [] true] (nr (sv all j)) (RR (.tk 3) 4 (nr (J0 (sv all j))++[(3,pQ (FX (sv all j)))]))∧∃G,Vm n (T+1) all said A num G j (J0 (sv all j)) (FX (sv all j)):=by
 obtain⟨f1,f2,f3,f4,f5,f6,_⟩:=ju n I.n4;obtain⟨hj,q1,q2,q3⟩:=fD I.n4 h1 h2;obtain⟨N,ho,hl⟩:=I.ni h1 h2;obtain⟨c1,c2,c3,c4⟩:=I.ao h1 h2;have Dp:=I.M8;obtain⟨d1,d2,d3⟩:=I.nd j h1 h2;have hR:=I.rd j h1 h2;have RW:=Qv hR;obtain⟨L',C,hp⟩:=I.ci.tick hj;have hx:=I.ci.Is hj (show num≤2000 by omega);simp only[zo]at C hx;have hol:(aV (sv all j).x).out.length≤3000:=by
  have:=N.tick.1.len;rw[ho]at this;simp at this;omega
 refine⟨Qs (sv all j) (by rw[c1];exact f1) (by rw[c1];exact f5) (by rw[c1];exact f6) om ho om hx hol,(fun i=>if i=j then L' else g i) (n:Int),⟨⟨(fun i=>if i=j then L' else g i),?_,rfl⟩,fun m hm=>?_,?_⟩⟩
 ·have gN:∀m∈FX (sv all j),m∈(aV (sv all j).x).out∨m=zn (sv all j)∨∃r∈(sv all j).rd.l,m=rX (sv all j) r:=fun m hm=>by
   rcases List.mem_append.1 hm with q|q
   ·rcases List.mem_append.1 q with q|q
    ·exact .inl q
    ·exact .inr (.inl (by simpa using q))
   ·split at q
    ·cases q
    ·obtain⟨r,hr,e⟩:=List.mem_map.1 q;exact .inr (.inr ⟨r,hr,e.symm⟩)
  refine I.go h1 h2 (I.ci' (y:=bG (aV (sv all j).x)) rfl (fun m h=>h) (fun m hm hr=>?_) C) (Dj hp _) (fun m h=>h) ⟨d1,by show 0≤(sv all j).bm+1;omega,by show(sv all j).bm+1≤T+1;omega⟩ om (Int.le_refl _) (fun a ha=>.inl ha) (fun a h=>h) I.uniq hR (Int.le_refl _) (fun r hr _=>hr) (fun m hm ly=>?_)
  ·rcases gN m hm with q|q|⟨r,_,q⟩
   ·exact q
   ·rw[q]at hr;rcases kF.1 hr with e|e<;>cases e
   ·rw[q]at hr;rcases kF.1 hr with e|e<;>cases e
  ·rcases gN m hm with q|q|⟨r,hr,q⟩
   ·rcases uW C q with e|e
    ·omega
    ·exact .inl e
   ·rw[q]at ly;have ly:(101:Int)≤n:=ly;omega
   ·refine .inr (.inl ⟨j,r.token,r.key,?_,⟨h1,h2⟩,?_,?_⟩)
    ·rw[q];show tI (sv all j).node (dO (sv all j).x.ao) (sv all j).x.ao.chain (sv all j).x.ao.aJ r.token r.key=_;rw[d1,c1,f2,f3,f4]
    ·show r.token≤(if j=j then(sv all j).rd else _).last;rw[if_pos rfl];exact(hR.tok r hr).2
    ·obtain⟨a,ha,_,e⟩:=hR.ask r hr;rw[←e];exact(I.asks a ha).key
 ·intro hk;rcases List.mem_append.1 hm with q|q
  ·rcases List.mem_append.1 q with q|q
   ·rcases uW C q with e|e
    ·omega
    ·rcases kF.1 e with e|e<;>omega
   ·rw[List.mem_singleton]at q;rw[q]at hk;exact absurd hk (by show¬(10:Int)=20;decide)
  ·split at q
   ·cases q
   ·obtain⟨r,hr,e⟩:=List.mem_map.1 q;rw[←e]at hk;exact absurd hk (by show¬(15:Int)=20;decide)
 ·show((_++_)++_:List Lr).length≤_;rw[List.length_append,List.length_append];have:(if(sv all j).x.role.tail=true then []else(sv all j).rd.l.map (rX (sv all j))).length≤2:=by
   split
   ·exact Nat.zero_le _
   ·rw[List.length_map];exact RW
  simp only[List.length_cons,List.length_nil];omega
end
@[reducible] def FZ (s s':eB) (m:Lr) (ms:List Lr):Prop:=VC E0 6 3 [.ptr 0 0,.agg (aE m)] (nr s) (tO s' ms)
section
variable {n:Nat} {T:Int} {all:List eB} {said:List Lr} {A:List ig} {num:Int} {g:Int→List bd}
theorem c7.P9 (I:c7 n T all said A num g) (hb:num≤1000) {j:Int} (h1:1≤j) (h2:j≤n):oK (sv all j).x.st:=by
 obtain⟨N,_,hl⟩:=I.ni h1 h2;exact N.sg.P9 (by rw[N.e];omega)
theorem c7.Jy (I:c7 n T all said A num g) (hb:num≤1000) {m:Lr} (hm:m∈said) (hr:DA m=true) {j:Int} (h1:1≤j) (h2:j≤n) (ly:m.to=j) {cV:List Lr} (hs:∀m∈cV,m∈said):
 ∃s' ms G,FZ (sv all j) s' m ms∧Vm n T all cV A num G j s' ms:=by
 obtain⟨f1,f2,f3,f4,f5,f6,_⟩:=ju n I.n4;obtain⟨hj,q1,q2,q3⟩:=fD I.n4 h1 h2;have Dp:=I.M8;obtain⟨d1,d2,d3⟩:=I.nd j h1 h2;have Ng:m∈said.filter DA:=List.mem_filter.2 ⟨hm,hr⟩;have XY:XF m:=by
  rcases I.ci.said m Ng with⟨e,_⟩|⟨h,_⟩
  ·rcases kF.1 hr with q|q<;>omega
  ·exact h
 have hk:m.kind=12∨m.kind=13∨m.kind=17:=by rcases XY.kind with e|e<;>omega
 obtain⟨y,L',V,hol,C,hp⟩:=I.ci.take (show num≤2000 by omega) Ng ly hj (cV:=said.filter DA) (fun m h=>h);simp only[zo]at C V;have hS:∀(s':eB) (ms:List Lr),s'=⟨(sv all j).node,(sv all j).bm,bG y,(sv all j).rd⟩→ms=y.out→Vm n T all cV A num ((fun i=>if i=j then L' else g i) (n:Int)) j s' ms:=fun s' ms es em=>by
  subst es;subst em;refine⟨⟨_,I.go h1 h2 (I.ci' (y:=bG y) rfl hs (fun m hm _=>hm) C) (Dj hp _) hs ⟨d1,d2,d3⟩ (Int.le_refl _) (Int.le_refl _) (fun a ha=>.inl ha) (fun a h=>h) I.uniq (I.rd j h1 h2) (Int.le_refl _) (fun r hr _=>hr) (fun m hm ly=>?_),rfl⟩,fun m hm hk=>?_,om⟩
  ·rcases uW C hm with e|e
   ·omega
   ·exact .inl e
  ·rcases uW C hm with e|e
   ·omega
   ·rcases kF.1 e with e|e<;>omega
 rcases V with V|⟨e,Vb,V⟩
 ·exact⟨_,_,_,FR (sv all j) y m hk (ly.trans d1.symm) XY.check V,hS _ _ rfl rfl⟩
 ·have hwx:bG y=(sv all j).x:=by
   rw[←e];obtain⟨x1,x2,x3,x4,x5,x6,x7,x8,x9,xa,xb,xc⟩:=y;cases Vb;rfl
  refine⟨sv all j,[],_,MH (sv all j) m hk (ly.trans d1.symm) XY.check V,hS _ _ ?_ Vb.symm⟩;rw[hwx]
theorem c7.abA (I:c7 n T all said A num g) (hb:num≤1000) {m:Lr} (hm:LA n (g n) A (fun i=>(sv all i).rd) m) {j:Int} (h1:1≤j) (h2:j≤n) (ly:m.to=j) {cV:List Lr} (hs:∀m∈cV,m∈said):
 ∃s' ms G,FZ (sv all j) s' m ms∧Vm n T all cV A num G j s' ms:=by
 obtain⟨f1,f2,f3,f4,f5,f6,_⟩:=ju n I.n4;obtain⟨hj,q1,q2,q3⟩:=fD I.n4 h1 h2;have Dp:=I.M8;obtain⟨d1,d2,d3⟩:=I.nd j h1 h2;obtain⟨c1,c2,c3,c4⟩:=I.ao h1 h2;have hR:=I.rd j h1 h2;have RW:=Qv hR;obtain⟨N,ho,hl⟩:=I.ni h1 h2;have jd:∀(JZ:wa) (ms:List Lr),gJ n ⟨b8 n,(all.set (j - 1).toNat ⟨(sv all j).node,(sv all j).bm,(sv all j).x,JZ⟩).map eB.x,(cV++uV n ms).filter DA,num⟩ g∨∃m∈ms,DA m=true:=fun JZ ms=>by
  by_cases hq:∃m∈ms,DA m=true
  ·exact .inr hq
  ·refine .inl (I.ci' (y:=(sv all j).x) rfl hs (out:=[]) (fun m hm hr=>absurd ⟨m,hm,hr⟩ hq) ?_);rw[List.append_nil];have e:(all.map eB.x).set (j - 1).toNat (sv all j).x=all.map eB.x:=by
    rw[←zo];refine List.ext_getElem? fun i=>?_;by_cases ei:(j - 1).toNat=i
    ·subst ei;have hlen:=I.len;rw[List.getElem?_set_self (by rw[List.length_map];omega),Qu (by rw[List.length_map];omega)]
    ·rw[List.getElem?_set_ne ei]
   rw[e];exact I.ci
 rcases hm with⟨i,t,k,e,h3,h4,h5⟩|⟨i,t,k,v,e,h3,h4,h5,h6,h7⟩
 ·-- another node asks the tail
  obtain rfl:j=n:=by rw[←ly,e]
  have V:=MB (sv all (n:Int)) i t k (by rw[c1];exact f1) (by rw[d1];exact I.iB h1 h2) (I.iB h3.1 h3.2) (by rw[c1,d1,q2];exact decide_eq_true rfl) (by rw[c1];exact(fD I.n4 h3.1 h3.2).1) (by rw[c3,c4];exact⟨q1,rfl⟩) (I.P9 hb h1 h2);rw[d1,c1,f3,f4]at V;have hv:=Di I h1 h2 k;have hvn:=Qb N.M0 N.log k;rw[e];refine⟨_,_,g n,V,⟨⟨g,?_,rfl⟩,fun m hm hk=>?_,?_⟩⟩
  ·have gN:∀m∈(if i=(n:Int)then []else [TQ (sv all n) i t k]),i≠n∧m=tW n i 0 1 t k (vk k (g n)):=fun m hm=>by
    split at hm
    ·cases hm
    ·rename_i bc;rw[List.mem_singleton]at hm;refine⟨bc,?_⟩;rw[hm];show tW (sv all n).node i (sv all n).x.ao.chain (sv all n).x.ao.aJ t k _=_;rw[d1,c1,f3,f4,hv]
   have C:=(jd (sv all n).rd (if i=(n:Int)then []else [TQ (sv all n) i t k])).resolve_right (fun⟨m,hm,hr⟩=>by
    obtain⟨_,e⟩:=gN m hm;rw[e]at hr;rcases kF.1 hr with e|e<;>cases e)
   refine I.go h1 h2 C (List.prefix_refl _) hs ⟨d1,d2,d3⟩ (Int.le_refl _) (Int.le_refl _) (fun a ha=>.inl ha) (fun a h=>h) I.uniq hR (Int.le_refl _) (fun r hr _=>hr) (fun m hm ly=>?_);obtain⟨bc,e⟩:=gN m hm;refine .inr (.inr ⟨i,t,k,vk k (g n),e,⟨h3.1,om⟩,?_,h5,⟨hvn.1,Int.le_refl _⟩,fun r _ _ _ a ha _=>(I.asks a ha).at_ k h5.1 h5.2⟩);show t≤(if i=(n:Int)then(sv all (n:Int)).rd else(sv all i).rd).last;rw[if_neg bc];exact h4
  ·split at hm
   ·cases hm
   ·rw[List.mem_singleton]at hm;rw[hm]at hk;exact absurd hk (by show¬(16:Int)=20;decide)
  ·split<;>simp
 ·-- the tail told a version
  obtain rfl:j=i:=by rw[←ly,e]
  have bT:∀r∈(sv all j).rd.l,1≤r.aj∧r.aj≤6:=fun r hr=>by rcases hR.cl r hr with e|e<;>omega
  have V:=MD (sv all j) t k v (by rw[c1];exact f1) (by rw[d1];exact I.iB h1 h2) (by rw[c1,f2];exact I.iB (j:=n) om (Int.le_refl _)) (by rw[c1,d1];exact⟨q1,by rw[q2];exact decide_eq_false om⟩) (I.P9 hb h1 h2) om hR.FY bT;rw[d1,c1,f2,f3,f4]at V;obtain⟨p1,p2⟩:=I.J1 h1 h2;obtain⟨Nn,_,_⟩:=I.ni (j:=n) om (Int.le_refl _);have gN:∀m∈Dh (sv all j) t k v,m.kind=20∧200≤m.to∧Vl A (g n) m:=fun m hm=>by
   unfold Dh at hm;split at hm
   ·rename_i hc;obtain⟨o1,o2,o3⟩:=hc;rw[List.mem_singleton]at hm;have bc:(sv all j).rd.l.filter (dT t)≠[]:=fun q=>by
     obtain⟨r,hr,hb⟩:=List.any_eq_true.1 (show(sv all j).rd.l.any (dT t)=true from o1);have:r∈(sv all j).rd.l.filter (dT t):=List.mem_filter.2 ⟨hr,hb⟩;rw[q]at this;cases this
    obtain⟨r,hrE⟩:∃r,(gY (sv all j).rd t).2.1=r:=⟨_,rfl⟩;have hrm:r∈(sv all j).rd.l.filter (dT t):=by
     rw[←hrE];show((((sv all j).rd.l.filter (dT t)).getLast?).getD fZ)∈_;rw[List.getLast?_eq_some_getLast bc];exact List.getLast_mem bc
    obtain⟨r1,r2⟩:=List.mem_filter.1 hrm;have r2:r.token=t:=of_decide_eq_true r2;rw[hrE]at o2 hm;have hpk:=Im N.st N.M0 Nn.log p1 (d:=(sv all j).x.ar.done) (k:=k) (v:=v) p2 h6.2 (of_decide_eq_true o3);have rZ:=bT r r1;rw[hm];refine⟨rfl,by show 200≤200+r.aj;omega,fun _=>?_⟩;show(0≤r.key∧r.key≤2)∧(∃a∈A,a.num=r.num∧a.key=r.key)∧∀a∈A,a.num=r.num→a.key=r.key→a.at_ r.key≤_∧_≤vk r.key (g n);rw[o2];refine⟨h5,by have:=hR.ask r r1;rwa [o2]at this,fun a ha en _=>⟨Int.le_trans (h7 r r1 r2 o2 a ha en) hpk.1,hpk.2⟩⟩
   ·cases hm
  rw[e];have C:=(jd (gY (sv all j).rd t).1 (Dh (sv all j) t k v)).resolve_right (fun⟨m,hm,hr⟩=>by
   have:=(gN m hm).1;rcases kF.1 hr with e|e<;>omega)
  rw[d1]at C;have ud:∀r∈(gY (sv all j).rd t).1.l,r∈(sv all j).rd.l:=fun r hr=>(List.mem_filter.1 (show r∈(sv all j).rd.l.filter fun r=> !dT t r from hr)).1;have iO:(gY (sv all j).rd t).1.l.Sublist (sv all j).rd.l:=List.filter_sublist;refine⟨_,_,g n,V,⟨⟨g,I.go h1 h2 C (List.prefix_refl _) hs ⟨rfl,d2,d3⟩ (Int.le_refl _) (Int.le_refl _) (fun a ha=>.inl ha) (fun a h=>h) I.uniq ?_ (Int.le_refl _) (fun r hr _=>ud r hr) (fun m hm ly=>?_),rfl⟩,fun m hm=>(gN m hm).2.2,?_⟩⟩
  ·exact⟨hR.last,fun r hr=>hR.tok r (ud r hr),fun r hr=>hR.cl r (ud r hr),hR.nodup.sublist (iO.map _),hR.FY.sublist iO,fun r hr=>hR.ask r (ud r hr)⟩
  ·have:=(gN m hm).2.1;omega
  ·unfold Dh;split<;>simp
theorem c7.write (I:c7 n T all said A num g) (hb:num≤900) {u:bd} (hu:∀s,UG (num+1) {u with seq:=s}) (Vg:u.seq=0) (hun:num<u.num):
 ∃s' ms G,FZ (sv all 1) s' (wJ 201 1 0 1 [u]) ms∧Vm n T all said A (num+1) G 1 s' ms:=by
 obtain⟨f1,f2,f3,f4,f5,f6,_⟩:=ju n I.n4;have Dp:=I.M8;obtain⟨d1,d2,d3⟩:=I.nd 1 (by decide) om;have hh:(b8 n).nodes[0]? =some 1:=by
  show((List.range n).map fun(i:Nat)=>(i:Int)+1)[0]? =_;rw[List.getElem?_map,List.getElem?_range om];rfl
 obtain⟨y,L',V,hol,C,hp⟩:=I.ci.write (show num≤1000 by omega) hu Vg hun (f:=201) (by decide) hh;simp only[zo,f3,f4]at C V;have hw:okW true u=true:=by
  have h:=hu 0;have h1:=h.aj;have h2:=h.num;have h3:=h.data;unfold okW;simp only[Bool.and_eq_true,beq_iff_eq,decide_eq_true_eq];exact⟨by rw[decide_eq_true Vg],h.aj,h.num.1,.inl ⟨h.kind,h.bA⟩,h.data⟩
 have kr:=yS 201 1 0 1 u (.inr (by decide)) (.inl (by decide)) (by decide) (by decide) hw;refine⟨_,_,_,FR (sv all 1) y (wJ 201 1 0 1 [u]) (.inr (.inr rfl)) d1.symm kr V,⟨⟨_,I.go (by decide) om (I.ci' (y:=bG y) rfl (fun m h=>h) (fun m hm _=>hm) C) (Dj hp _) (fun m h=>h) ⟨d1,d2,d3⟩ (Int.le_refl _) om (fun a ha=>.inl ha) (fun a h=>h) I.uniq (rdM (I.rd 1 (by decide) om) om) (Int.le_refl _) (fun r hr _=>hr) (fun m hm ly=>?_),rfl⟩,fun m hm hk=>?_,om⟩⟩
 ·rcases uW C hm with e|e
  ·omega
  ·exact .inl e
 ·rcases uW C hm with e|e
  ·omega
  ·rcases kF.1 e with e|e<;>omega
theorem c7.read (I:c7 n T all said A num g) (hb:num≤900) {j:Int} (h1:1≤j) (h2:j≤n) {f key:Int} (hf:f=202∨f=203) (hk:0≤key∧key≤2) {a:ig} (ha:a.num=num+1∧a.key=key) (hd:∀k,0≤k→k≤2→a.at_ k=vk k (g n)):
 ∃s' ms,FZ (sv all j) s' (zA f j 0 1 (num+1) key) ms∧Vm n T all said (A++[a]) (num+1) (g n) j s' ms:=by
 obtain⟨f1,f2,f3,f4,f5,f6,_⟩:=ju n I.n4;obtain⟨hj,q1,q2,q3⟩:=fD I.n4 h1 h2;have Dp:=I.M8;obtain⟨d1,d2,d3⟩:=I.nd j h1 h2;obtain⟨c1,c2,c3,c4⟩:=I.ao h1 h2;have hR:=I.rd j h1 h2;have RW:=Qv hR;obtain⟨N,ho,hl⟩:=I.ni h1 h2;obtain⟨p1,p2⟩:=I.J1 h1 h2;obtain⟨Nn,_,_⟩:=I.ni (j:=n) om (Int.le_refl _);have J2:0≤num:=I.ci.num;have vM:¬((f - 200<1∨6<f - 200)∨num+1=0):=by omega
 have vh:(sv all j).rd.l.find? (zi (f - 200) (num+1) key)=none:=by
  rw[List.find?_eq_none];intro r hr q;have q:=of_decide_eq_true q;obtain⟨b,oB,rY,_⟩:=hR.ask r hr;have:=(I.asks b oB).num;omega
 have aeM:¬16≤(others (f - 200) (sv all j).rd.l).length:=by
  have:(others (f - 200) (sv all j).rd.l).length≤(sv all j).rd.l.length:=List.length_filter_le _ _;omega
 have Qt:=hR.last;have hw:IntKind.u64.wrap ((sv all j).rd.last+1)=(sv all j).rd.last+1:=IntWalk.u64_in _ om;have Dg:=zk vM vh aeM;rw[hw]at Dg;have V:=MA (sv all j) f (num+1) key (by rw[c1];exact f1) (by rw[d1];exact I.iB h1 h2) (by rw[c1,d1];exact q1) (by rw[c3,c4];exact⟨q1,rfl⟩) (I.P9 om h1 h2) om (by rw[Dg]) om;rw[d1,c1,f3,f4]at V;have hA':∀b∈A++[a],b∈A∨(num<b.num∧TT (g n) (num+1) b):=fun b hb=>by
  rcases List.mem_append.1 hb with q|q
  ·exact .inl q
  ·rw[List.mem_singleton]at q;rw[q];exact .inr ⟨om,om,by rw[ha.2];exact hk,fun k qj qk=>by rw[hd k qj qk];exact Int.le_refl _⟩
 have QL:(A++[a]).Pairwise fun a b=>a.num<b.num:=by
  rw[List.pairwise_append];refine⟨I.uniq,List.pairwise_singleton _ _,fun x hx y hy=>?_⟩;rw[List.mem_singleton]at hy;have:=(I.asks x hx).num;rw[hy];omega
 have iO:∀b∈A,b∈A++[a]:=fun b hb=>List.mem_append_left _ hb;have C0:∀(JZ:wa) (m:Lr),DA m=false→gJ n ⟨b8 n,(all.set (j - 1).toNat ⟨j,(sv all j).bm,(sv all j).x,JZ⟩).map eB.x,(said++uV n [m]).filter DA,num+1⟩ g:=fun JZ m hm=>by
  refine I.ci' (y:=(sv all j).x) rfl (fun m h=>h) (out:=[]) (fun m' QY hr=>?_) ?_
  ·rw[List.mem_singleton]at QY;rw[QY,hm]at hr;cases hr
  rw[List.append_nil];have e:(all.map eB.x).set (j - 1).toNat (sv all j).x=all.map eB.x:=by
   rw[←zo];refine List.ext_getElem? fun i=>?_;by_cases ei:(j - 1).toNat=i
   ·subst ei;have hlen:=I.len;rw[List.getElem?_set_self (by rw[List.length_map];omega),Qu (by rw[List.length_map];omega)]
   ·rw[List.getElem?_set_ne ei]
  rw[e];exact I.ci.later om
 by_cases XZ:0<(cE (sv all j).x.st key).length∧(sv all j).x.ar.done<(ba (cE (sv all j).x.st key)).seq
 ·have hrs:tP (sv all j) f (num+1) key=(⟨(sv all j).node,(sv all j).bm,(sv all j).x,⟨(sv all j).rd.last+1,others (f - 200) (sv all j).rd.l++[⟨(sv all j).rd.last+1,f - 200,num+1,key⟩]⟩⟩,tI j n 0 1 ((sv all j).rd.last+1) key):=by
   unfold tP;rw[if_pos XZ,Dg];show(_,tI (sv all j).node (dO (sv all j).x.ao) (sv all j).x.ao.chain (sv all j).x.ao.aJ _ _)=_;rw[d1,c1,f2,f3,f4]
  rw[hrs]at V;rw[d1]at V;refine⟨_,_,V,⟨⟨g,I.go h1 h2 (C0 _ _ rfl) (List.prefix_refl _) (fun m h=>h) ⟨rfl,d2,d3⟩ (Int.le_refl _) om hA' iO QL ?_ (by show _≤(sv all j).rd.last+1;omega) (fun r hr ht=>?_) (fun m hm ly=>?_),rfl⟩,fun m hm hk=>?_,by simp⟩⟩
  ·have l7:∀r∈others (f - 200) (sv all j).rd.l,r∈(sv all j).rd.l∧r.aj≠f - 200:=fun r hr=>by
    obtain⟨x1,x2⟩:=List.mem_filter.1 (show r∈(sv all j).rd.l.filter fun r=> !tK (f - 200) r from hr);exact⟨x1,by
     have:tK (f - 200) r=false:=by simpa using x2
     exact of_decide_eq_false this⟩
   have IQ:(others (f - 200) (sv all j).rd.l).Sublist (sv all j).rd.l:=List.filter_sublist;refine⟨by show 0≤(sv all j).rd.last+1∧(sv all j).rd.last+1≤num+1;omega,fun r hr=>?_,fun r hr=>?_,?_,?_,fun r hr=>?_⟩
   ·show 1≤r.token∧r.token≤(sv all j).rd.last+1;rcases List.mem_append.1 hr with q|q
    ·have:=hR.tok r (l7 r q).1;omega
    ·rw[List.mem_singleton]at q;rw[q];show 1≤(sv all j).rd.last+1∧(sv all j).rd.last+1≤(sv all j).rd.last+1;omega
   ·rcases List.mem_append.1 hr with q|q
    ·exact hR.cl r (l7 r q).1
    ·rw[List.mem_singleton]at q;rw[q];show f - 200=2∨f - 200=3;omega
   ·show((others (f - 200) (sv all j).rd.l++[_]).map Rd.aj).Nodup;rw[List.map_append,List.nodup_append];refine⟨hR.nodup.sublist (IQ.map _),by simp,fun x hx y hy=>?_⟩;obtain⟨r,hr,rfl⟩:=List.mem_map.1 hx;have hy:y=f - 200:=by simpa using hy
    rw[hy];exact(l7 r hr).2
   ·show(others (f - 200) (sv all j).rd.l++[_]).Pairwise _;rw[List.pairwise_append];refine⟨hR.FY.sublist IQ,List.pairwise_singleton _ _,fun x hx y hy=>?_⟩;rw[List.mem_singleton]at hy;rw[hy];have:=(hR.tok x (l7 x hx).1).2;show x.token<(sv all j).rd.last+1;omega
   ·rcases List.mem_append.1 hr with q|q
    ·obtain⟨b,oB,rY⟩:=hR.ask r (l7 r q).1;exact⟨b,iO b oB,rY⟩
    ·rw[List.mem_singleton]at q;rw[q];exact⟨a,by simp,ha⟩
  ·rcases List.mem_append.1 hr with q|q
   ·exact(List.mem_filter.1 (show r∈(sv all j).rd.l.filter fun r=> !tK (f - 200) r from q)).1
   ·rw[List.mem_singleton]at q;rw[q]at ht;have ht:(sv all j).rd.last+1≤(sv all j).rd.last:=ht;omega
  ·rw[List.mem_singleton]at hm;refine .inr (.inl ⟨j,(sv all j).rd.last+1,key,hm,⟨h1,h2⟩,?_,hk⟩);show _≤(if j=j then _ else _:wa).last;rw[if_pos rfl];exact Int.le_refl _
  ·rw[List.mem_singleton]at hm;rw[hm]at hk;exact absurd hk (by show¬(15:Int)=20;decide)
 ·have hrs:tP (sv all j) f (num+1) key=(sv all j,Mw (sv all j) f (num+1) key (ba (cE (sv all j).x.st key))):=if_neg XZ;have My:=Ms N.st N.M0 N.log Nn.log p1 p2 XZ;rw[hrs]at V;have hsj:sv all j=⟨j,(sv all j).bm,(sv all j).x,(sv all j).rd⟩:=by
   generalize sv all j=q at d1 ⊢;obtain⟨q1,q2,q3,q4⟩:=q;have d1:q1=j:=d1;subst d1;rfl
  refine⟨_,_,V,⟨⟨g,I.go h1 h2 (by have:=C0 (sv all j).rd (Mw (sv all j) f (num+1) key (ba (cE (sv all j).x.st key))) rfl;rw[←hsj]at this;exact this) (List.prefix_refl _) (fun m h=>h) ⟨d1,d2,d3⟩ (Int.le_refl _) om hA' iO QL ?_ (Int.le_refl _) (fun r hr _=>hr) (fun m hm ly=>?_),rfl⟩,fun m hm _=>?_,by simp⟩⟩
  ·have:=rdM hR (show num≤num+1 by omega);exact⟨this.last,this.tok,this.cl,this.nodup,this.FY,fun r hr=>by obtain⟨b,oB,rY⟩:=this.ask r hr;exact⟨b,iO b oB,rY⟩⟩
  ·rw[List.mem_singleton]at hm;rw[hm]at ly;have ly:f≤n:=ly;omega
  ·rw[List.mem_singleton]at hm;rw[hm];show(0≤key∧key≤2)∧(∃b∈A++[a],b.num=num+1∧b.key=key)∧∀b∈A++[a],b.num=num+1→b.key=key→b.at_ key≤(ba (cE (sv all j).x.st key)).bA∧(ba (cE (sv all j).x.st key)).bA≤vk key (g n);rw[My];refine⟨hk,⟨a,by simp,ha⟩,fun b hb en _=>⟨?_,Int.le_refl _⟩⟩;rcases hA' b hb with q|q
   ·have:=(I.asks b q).num;omega
   ·exact q.2.at_ key hk.1 hk.2
end
@[reducible] noncomputable def Qw (s:eB):Ob:=[(0,mB s)]
@[reducible] def J3 (s:eB) (ms:List Lr):TV→Ob→Nat→Prop:=fun r o c=>(ms=[]∧r= .sl 0 [] true∧c=1∧o=Qw s)∨(r= .tk 1∧c=2∧o=[(0,mB s),(1,pQ ms)])
theorem J4 {s s':eB} {m:Lr} {ms:List Lr} (h:FZ s s' m ms):VC E0 6 1 [.ptr 0 0,.agg (aE m)] (Qw s) (J3 s' ms):=by
 refine VC.told (R:=fun r o c=>(ms=[]∧r= .sl 0 [] true∧c=6∧o=nr s')∨(r= .tk 6∧c=7∧o=nr s'++[(6,pQ ms)])) (VC.tc (m0:=0) rfl ?_) ?_
 ·show ow false (VC E0) _ _ [(1,lq s.x),(2,XT s.rd),(0,svC s)] 3 _;refine⟨[],[some 0,some 1,some 2],_,_,_,_,h,t3,?_⟩;rintro r o' c' (⟨h0,rfl,rfl,rfl⟩|⟨rfl,rfl,rfl⟩)
  ·exact .inl ⟨h0,rfl,rfl,rfl⟩
  ·exact .inr ⟨rfl,rfl,rfl⟩
 ·rintro r o' c' (⟨h0,rfl,rfl,rfl⟩|⟨rfl,rfl,rfl⟩)
  ·exact⟨[],[some 0],_,_,_,t3,.inl ⟨h0,rfl,rfl,rfl⟩⟩
  ·exact⟨[],[some 0,some 6],_,_,_,t3,.inr ⟨rfl,rfl,rfl⟩⟩
theorem abC {s s':eB} {ms:List Lr} (h:VC E0 7 3 [.ptr 0 0,.sl 0 [] true] (nr s) (RR (.tk 3) 4 (nr s'++[(3,pQ ms)]))):VC E0 7 1 [.ptr 0 0,.sl 0 [] true] (Qw s) (RR (.tk 1) 2 [(0,mB s'),(1,pQ ms)]):=by
 refine VC.told (R:=fun r o c=>r= .tk 6∧c=7∧o=nr s'++[(6,pQ ms)]) (VC.tc (m0:=0) rfl ?_) ?_
 ·show ow false (VC E0) _ _ [(1,lq s.x),(2,XT s.rd),(0,svC s)] 3 _;refine⟨[],[some 0,some 1,some 2],_,_,_,_,h,t3,?_⟩;rintro r o' c' ⟨rfl,rfl,rfl⟩;exact⟨rfl,rfl,rfl⟩
 ·rintro r o' c' ⟨rfl,rfl,rfl⟩;exact⟨[],[some 0,some 6],_,_,_,t3,rfl,rfl,rfl⟩
@[reducible] def ndK (k:Nat):List Int:=(List.range k).map fun(i:Nat)=>(i:Int)+1
theorem Qx (k:Nat):ndK (k+1)=ndK k++[(k:Int)+1]:=by unfold ndK;rw[List.range_succ,List.map_append];rfl
@[reducible] def nj (n:Nat) (j:Int):eB:=⟨j,0,Fj j (b8 n),⟨0,[]⟩⟩
@[reducible] def we (n k:Nat):List eB:=(List.range k).map fun(i:Nat)=>nj n ((i:Int)+1)
theorem F4 (n k:Nat):we n (k+1)=we n k++[nj n ((k:Int)+1)]:=by unfold we;rw[List.range_succ,List.map_append];rfl
theorem J5 (n k:Nat):(we n k).length=k:=by simp[we]
@[reducible] noncomputable def mC (s:eB):List TV:=[.own (mB s)]
@[reducible] noncomputable def abE (l:List eB):TO:=.bx 1 (l.map mC) []
@[reducible] def abF (l:List Int):TO:=.cells [.s (.int .i64 0),.s (.int .u64 1),.own (.arr 1 true (l.map gl)),.s (.bool false),.s (.int .i64 0)]
theorem Qy (n:Nat) (hn:n≤4):VC E0 14 0 [.s (.int .i64 n)] [] (RR (.agg (b9 (b8 n))) 0 []):=by
 refine en L0 Tryz.f14 ?_;refine⟨fun kk f o c=>∃k:Nat,k≤n∧kk=n - k∧c=2∧f=[(0,.s (.int .i64 n)),(2,.ptr 0 0),(3,.ptr 1 0),(4,.s (.int .i64 ((k:Int)+1)))]∧o=[(0,.cells PQ),(1,abF (ndK k))],⟨n,?_⟩,?_⟩
 ·exact⟨[],[some 0,some 1],_,_,_,t3,⟨0,Nat.zero_le _,rfl,rfl,rfl,rfl⟩⟩
 rintro kk f1 o1 c1 ⟨k,hk,rfl,rfl,rfl,rfl⟩;have oL:IntKind.i64.wrap ((k:Int)+1+1)=((k+1:Nat):Int)+1:=IntWalk.i64_in _ om;refine wh ?_;refine sp ?_ ?_<;>intro bH
 ·have bH:(k:Int)+1≤n:=bH;refine wh ?_;refine⟨by simp<;>omega,?_⟩;refine wh ?_;rw[oL];refine⟨n - (k+1),?_,om⟩;refine⟨[],[some 0,some 1],?_⟩
  iterate 3 constructor
  refine⟨⟨?_,?_,?_⟩,⟨k+1,om,rfl,rfl,rfl,rfl⟩⟩
  all_goals(repeat' first|exact LF|constructor)
  all_goals exact Lz.of (by show _=(ndK (k+1)).map gl;rw[Qx,List.map_append];rfl)
 have bH:¬(k:Int)+1≤n:=bH;obtain rfl:k=n:=by omega
 refine wh ?_;exact⟨[2],[],_,_,_,t3,rfl,rfl,rfl⟩
theorem TU:VC E0 33 0 [] [] (RR (.ptr 0 0) 1 (Ix ⟨0,[]⟩)):=by
 refine en L0 Tryz.f33 ?_;exact⟨[],[some 0],_,_,_,t3,rfl,rfl,rfl⟩
theorem Qz (n:Nat) (j:Int) (H:bp (b8 n)) (hj:1≤j∧j≤24) (hi:(aD (b8 n) j).m7=true):VC E0 11 0 [.s (.int .i64 j),.s (.int .i64 1),.agg (b9 (b8 n))] [] (RR (.dF [.ptr 0 0,.s (.int .i64 0)]) 1 (Qw (nj n j))):=by
 have hr:=Tq (b8 n) j H hj rfl hi;refine en L0 Tryz.f11 ?_
 repeat((first|(refine⟨fun h_=>?_,fun h_=>?_⟩)|(refine aA (fun h_=>?_) (fun h_=>?_))|(refine az (fun h_=>?_) (fun h_=>?_)))<;>first|(exfalso;revert h_;decide;done)|(exact absurd rfl h_)|(have bq:=True.intro;clear bq;(conv=>whnf)))
 refine⟨[],[],_,_,_,_,hr,t3,cw ?_⟩
 repeat((first|(refine⟨fun h_=>?_,fun h_=>?_⟩)|(refine aA (fun h_=>?_) (fun h_=>?_))|(refine az (fun h_=>?_) (fun h_=>?_)))<;>first|(exfalso;revert h_;decide;done)|(exact absurd rfl h_)|(have bq:=True.intro;clear bq;(conv=>whnf)))
 refine⟨[],[],_,_,_,_,TU,t3,cw ?_⟩;exact⟨[],[some 3],_,_,_,t3,rfl,rfl,rfl⟩
theorem aeO (n k:Nat) (y:List TV):(((we n k).map mC++[y]).set (((we n k).map mC).length+0) (mC (nj n ((k:Nat)+1))))=(we n (k+1)).map mC:=by
 rw[F4,List.map_append,List.set_append_right _ _ (by simp)];simp
theorem QA (k:Nat) (hn:k∈[1,2,3,4]):VC E0 5 0 [.s (.int .i64 k)] [] (RR (.tk 0) 1 [(0,abE (we k k))]):=by
 have hn5:1≤k∧k≤4:=by simp at hn;omega
 have hR:=(ju k hn).1;refine en L0 Tryz.f5 ?_;refine⟨[],[],_,_,_,_,Qy k hn5.2,t3,cw ?_⟩;refine⟨fun kk f o c=>∃j:Nat,j≤k∧kk=k - j∧c=2∧f=[(0,.s (.int .i64 k)),(3,.ptr 0 0),(4,.tk 1),(5,.s (.int .i64 ((j:Int)+1)))]∧o=[(0,.cells (b9 (b8 k))),(1,abE (we k j))],⟨k,?_⟩,?_⟩
 ·exact⟨[],[some 0,none],_,_,_,t3,⟨0,Nat.zero_le _,rfl,rfl,rfl,rfl⟩⟩
 rintro kk f1 o1 c1 ⟨j,hj,rfl,rfl,rfl,rfl⟩;have RP:=fun bH:(j:Int)+1≤k=>Qz k ((j:Int)+1) hR om (fD hn om bH).2.1;have oL:IntKind.i64.wrap ((j:Int)+1+1)=((j+1:Nat):Int)+1:=IntWalk.i64_in _ om;have II:=J5 k j;refine wh ?_;refine sp ?_ ?_<;>intro bH
 ·refine wh ?_;refine⟨[],[],_,_,_,_,RP bH,t3,cw ?_⟩;refine⟨by simp<;>omega,?_⟩;refine wh ?_;rw[oL];refine⟨k - (j+1),?_,om⟩;refine⟨[],[some 0,some 4],_,_,_,⟨tq,.cons tq (.cons (.bx (oG:=[(_,mC (nj k ((j:Nat)+1)))]) .one (Lw.of (aeO k j _)) (.q1 tq)) .nil),by rfl⟩,⟨j+1,om,rfl,rfl,rfl,rfl⟩⟩
 have bH:¬(j:Int)+1≤k:=bH;obtain rfl:j=k:=by omega
 refine wh ?_;exact⟨[],[some 1],_,_,_,t3,rfl,rfl,rfl⟩
@[reducible] noncomputable def svP (s:eB):TO:=.cells [.s (.int .i64 s.node),.s (.int .i64 1),.s (.int .i64 s.bm),.ptr 1 0,.own (XT s.rd)]
theorem Iy (s:eB):VC E0 29 1 [.ptr 0 0] (Qw s) (RR (.ptr 1 0) 2 [(0,svP s),(1,lq s.x)]):=by
 refine en L0 Tryz.f29 ?_
 repeat((first|(refine⟨fun h_=>?_,fun h_=>?_⟩)|(refine aA (fun h_=>?_) (fun h_=>?_))|(refine az (fun h_=>?_) (fun h_=>?_)))<;>first|(exfalso;revert h_;decide;done)|(exact absurd rfl h_)|(have bq:=True.intro;clear bq;(conv=>whnf)))
 exact⟨[],[some 0,some 1],_,_,_,t3,rfl,rfl,rfl⟩
@[reducible] def aR (s:eB) (k:Int):Int:=(ba (cE s.x.st k)).bA
@[reducible] def aeP (s:eB):TV:=.agg [.s (.int .u64 (aR s 0)),.s (.int .u64 (aR s 1)),.s (.int .u64 (aR s 2))]
theorem lV (s:eB) (HS:oK s.x.st):VC E0 8 1 [.ptr 0 0] (Qw s) (RR (aeP s) 1 (Qw s)):=by
 have KZ:=Iy s;have bW:=tL s.x;have h0:=tJ s.x.st 0 HS;have h1:=tJ s.x.st 1 HS;have h2:=tJ s.x.st 2 HS;refine VC.bE L0 (show E0.func 8=some Tryz.f8 by kernel_rfl) (fun _ _=>rfl) rfl rfl [999999] ?_;refine wh ?_;refine sp ?_ ?_<;>intro t0;rotate_left
 ·exact absurd (show(0:Int)<3 by decide) t0
 refine wh ?_;refine⟨[],[some 0],_,_,_,_,KZ,t3,cw ?_⟩;refine⟨[],[some 4],_,_,_,_,bW,t3,cw ?_⟩;refine⟨[],[some 6],_,_,_,_,h0,t3,cw ?_⟩;refine⟨by decide,?_⟩;refine wh ?_;refine sp ?_ ?_<;>intro t1;rotate_left
 ·exact absurd (show IntKind.i64.wrap (0+1)<3 by decide) t1
 refine wh ?_;refine⟨[],[some 0],_,_,_,_,KZ,t3,cw ?_⟩;refine⟨[],[some 9],_,_,_,_,bW,t3,cw ?_⟩;refine⟨[],[some 11],_,_,_,_,h1,t3,cw ?_⟩;refine⟨by decide,?_⟩;refine wh ?_;refine sp ?_ ?_<;>intro t2;rotate_left
 ·exact absurd (show IntKind.i64.wrap (IntKind.i64.wrap (0+1)+1)<3 by decide) t2
 refine wh ?_;refine⟨[],[some 0],_,_,_,_,KZ,t3,cw ?_⟩;refine⟨[],[some 14],_,_,_,_,bW,t3,cw ?_⟩;refine⟨[],[some 16],_,_,_,_,h2,t3,cw ?_⟩;refine⟨by decide,?_⟩;refine wh ?_;refine sp ?_ ?_<;>intro u3
 ·exact absurd u3 (show¬IntKind.i64.wrap (IntKind.i64.wrap (IntKind.i64.wrap (0+1)+1)+1)<3 by decide)
 refine wh ?_;exact⟨[],[some 0],_,_,_,t3,rfl,rfl,rfl⟩
@[reducible] def eP (l:List Lr):TO:=.arr 25 true (l.map aE)
theorem F5 (n:Nat) (ms:List Lr) (i:Nat) (h:i<ms.length):uV n (ms.take (i+1))=uV n (ms.take i)++(if ms[i].to≤n then [ms[i]]else []):=by
 rw[uV,gj ms i h,List.filter_append];by_cases e:ms[i].to≤n<;>simp[e]
@[reducible] def abG (said ms:List Lr) (n:Nat):TV→Ob→Nat→Prop:=fun r o c=>(uV n ms=[]∧r= .tk 0∧c=2∧o=[(0,eP said),(1,eP ms)])∨(r= .tk 2∧c=3∧o=[(1,eP ms),(2,eP (said++uV n ms))])
theorem J6 (said ms:List Lr) (n:Nat) (h1:said.length≤100000) (h2:ms.length≤100000):VC E0 10 2 [.tk 0,.tk 1,.s (.int .i64 n)] [(0,eP said),(1,eP ms)] (abG said ms n):=by
 refine en L0 Tryz.f10 ?_
 refine⟨fun k f o c=>∃i:Nat,i≤ms.length∧k=ms.length - i∧((uV n (ms.take i)=[]∧c=2∧f=[(0,.tk 0),(1,.tk 1),(2,.s (.int .i64 n)),(7,.s (.int .i64 i))]∧o=[(0,eP said),(1,eP ms)])∨
  (c=3∧f=[(0,.tk 2),(1,.tk 1),(2,.s (.int .i64 n)),(7,.s (.int .i64 i))]∧o=[(1,eP ms),(2,eP (said++uV n (ms.take i)))])),⟨ms.length,?_⟩,?_⟩
 ·exact⟨[],[some 0,some 1],_,_,_,t3,⟨0,Nat.zero_le _,rfl,.inl ⟨rfl,rfl,rfl,rfl⟩⟩⟩
 rintro k f1 o1 c1 ⟨i,hi,rfl,⟨h0,rfl,rfl,rfl⟩|⟨rfl,rfl,rfl⟩⟩
 all_goals
  have oL:IntKind.i64.wrap ((i:Int)+1)=((i+1:Nat):Int):=IntWalk.i64_in _ om;have hkl:(said++uV n (ms.take i)).length≤200000:=by
   have:=List.length_filter_le (fun m:Lr=>decide (m.to≤n)) (ms.take i);rw[List.length_take]at this;rw[List.length_append];show _+(List.filter _ _).length≤_;omega
  refine wh ?_
 ·refine sp ?_ ?_<;>intro h
  ·have h:i<ms.length:=vF.1 h;have oz:=F5 n ms i h;have gm:(ms.map aE)[(i:Int).toNat]? =some (aE ms[i]):=by rw[Int.toNat_natCast,List.getElem?_map,List.getElem?_eq_getElem h];rfl
   generalize ms[i]=m at gm oz;refine wh ?_;refine⟨⟨om,by rw[List.length_map];omega⟩,aE m,gm,?_⟩;refine wh ?_;refine sp ?_ ?_<;>intro hq
   ·have hq:m.to≤n:=hq;rw[if_pos hq,h0]at oz;refine wh ?_;refine⟨⟨om,by rw[List.length_map];omega⟩,aE m,gm,?_⟩;refine wh ?_;refine⟨by show(said.map aE).length+1<1048576;rw[List.length_map];omega,?_⟩;refine wh ?_;rw[oL];refine⟨ms.length - (i+1),?_,om⟩;refine⟨[],[some 0,some 1,some 3],?_⟩
    iterate 3 constructor
    refine⟨⟨?_,?_,?_⟩,⟨i+1,h,rfl,.inr ⟨rfl,rfl,rfl⟩⟩⟩
    all_goals(repeat' first|exact LF|constructor)
    all_goals exact Lz.of (by rw[oz,List.map_append];rfl)
   ·have hq:¬m.to≤n:=hq;rw[if_neg hq,List.append_nil,h0]at oz;refine wh ?_;rw[oL];refine⟨ms.length - (i+1),?_,om⟩;exact⟨[],[some 0,some 1],_,_,_,t3,⟨i+1,h,rfl,.inl ⟨oz,rfl,rfl,rfl⟩⟩⟩
  ·have h:¬i<ms.length:=fun q=>h (vF.2 q);obtain rfl:i=ms.length:=by omega
   rw[List.take_length]at h0;refine wh ?_;exact⟨[],[some 0,some 1],_,_,_,t3,.inl ⟨h0,rfl,rfl,rfl⟩⟩
 ·refine sp ?_ ?_<;>intro h
  ·have h:i<ms.length:=vF.1 h;have oz:=F5 n ms i h;have gm:(ms.map aE)[(i:Int).toNat]? =some (aE ms[i]):=by rw[Int.toNat_natCast,List.getElem?_map,List.getElem?_eq_getElem h];rfl
   generalize ms[i]=m at gm oz;refine wh ?_;refine⟨⟨om,by rw[List.length_map];omega⟩,aE m,gm,?_⟩;refine wh ?_;refine sp ?_ ?_<;>intro hq
   ·have hq:m.to≤n:=hq;rw[if_pos hq]at oz;refine wh ?_;refine⟨⟨om,by rw[List.length_map];omega⟩,aE m,gm,?_⟩;refine wh ?_;refine⟨by show((said++uV n (ms.take i)).map aE).length+1<1048576;rw[List.length_map];omega,?_⟩;refine wh ?_;rw[oL];refine⟨ms.length - (i+1),?_,om⟩;refine⟨[],[some 0,some 1,some 4],?_⟩
    iterate 3 constructor
    refine⟨⟨?_,?_,?_⟩,⟨i+1,h,rfl,.inr ⟨rfl,rfl,rfl⟩⟩⟩
    all_goals(repeat' first|exact LF|constructor)
    all_goals exact Lz.of (by rw[oz,←List.append_assoc,List.map_append (l₁:=said++uV n (ms.take i))];rfl)
   ·have hq:¬m.to≤n:=hq;rw[if_neg hq,List.append_nil]at oz;refine wh ?_;rw[oL];refine⟨ms.length - (i+1),?_,om⟩;refine⟨[],[some 0,some 1,some 2],?_⟩
    iterate 3 constructor
    refine⟨⟨?_,?_,?_⟩,⟨i+1,h,rfl,.inr ⟨rfl,rfl,rfl⟩⟩⟩
    all_goals(repeat' first|exact LF|constructor)
    all_goals exact Lz.of (by rw[oz])
  ·have h:¬i<ms.length:=fun q=>h (vF.2 q);obtain rfl:i=ms.length:=by omega
   refine wh ?_;refine⟨[],[some 0,some 1,some 2],?_⟩
   iterate 3 constructor
   refine⟨⟨?_,?_,?_⟩,.inr ⟨rfl,rfl,rfl⟩⟩
   all_goals(repeat' first|exact LF|constructor)
   all_goals exact Lz.of (by rw[List.take_length])
@[reducible] def MI (a:ig):List TV:=[.s (.int .u64 a.num),.s (.int .u32 a.key),.s (.int .u64 a.d0),.s (.int .u64 a.d1),.s (.int .u64 a.d2)]
@[reducible] def eK (A:List ig):TO:=.arr 5 true (A.map MI)
theorem BA (ms:List Lr) (A:List ig) (v0 v1 v2:Int) (h1:ms.length≤100000) (h2:A.length≤100000)
 (H:∀m∈ms,m.kind=20→(0≤m.key∧m.key≤2)∧(∃a∈A,a.num=m.num∧a.key=m.key)∧∀a∈A,a.num=m.num→a.key=m.key→a.at_ m.key≤m.bA∧m.bA≤(if m.key=0 then v0 else if m.key=1 then v1 else v2)):
 VC E0 9 2 [.tk 0,.tk 1,.agg [.s (.int .u64 v0),.s (.int .u64 v1),.s (.int .u64 v2)]] [(0,eP ms),(1,eK A)] (RR (.s (.bool true)) 2 [(0,eP ms),(1,eK A)]):=by
 refine en L0 Tryz.f9 ?_;refine⟨fun k f o c=>∃i:Nat,i≤ms.length∧k=ms.length - i∧c=3∧f=[(0,.tk 0),(1,.tk 1),(5,.ptr 2 0),(7,.s (.int .i64 i))]∧o=[(0,eP ms),(1,eK A),(2,.cells [.s (.int .u64 v0),.s (.int .u64 v1),.s (.int .u64 v2)])],⟨ms.length,?_⟩,?_⟩
 ·exact⟨[],[some 0,some 1,some 2],_,_,_,t3,⟨0,Nat.zero_le _,rfl,rfl,rfl,rfl⟩⟩
 rintro k f1 o1 c1 ⟨i,hi,rfl,rfl,rfl,rfl⟩;have oL:IntKind.i64.wrap ((i:Int)+1)=((i+1:Nat):Int):=IntWalk.i64_in _ om;refine wh ?_;refine sp ?_ ?_<;>intro h;rotate_left
 ·refine wh ?_;exact⟨[],[some 0,some 1],_,_,_,t3,rfl,rfl,rfl⟩
 have h:i<ms.length:=vF.1 h;have gm:(ms.map aE)[(i:Int).toNat]? =some (aE ms[i]):=by rw[Int.toNat_natCast,List.getElem?_map,List.getElem?_eq_getElem h];rfl
 have Hm:=H ms[i] (List.getElem_mem h);generalize ms[i]=m at gm Hm;refine wh ?_;refine⟨⟨om,by rw[List.length_map];omega⟩,aE m,gm,?_⟩;refine wh ?_;refine sp ?_ ?_<;>intro hk
 ·refine wh ?_;rw[oL];refine⟨ms.length - (i+1),?_,om⟩;exact⟨[],[some 0,some 1,some 2],_,_,_,t3,⟨i+1,h,rfl,rfl,rfl,rfl⟩⟩
 have hk:¬¬m.kind=20:=hk;obtain⟨⟨k0,k2⟩,⟨a0,ha0,en0,ek0⟩,iY⟩:=Hm (Classical.not_not.1 hk);refine wh ?_;refine⟨fun k f o c=>∃(j:Nat) (met:Bool),j≤A.length∧k=A.length - j∧((∃a∈A.take j,a.num=m.num∧a.key=m.key)→met=true)∧c=3∧f=[(0,.tk 0),(1,.tk 1),(5,.ptr 2 0),(7,.s (.int .i64 i)),(8,.s (.bool met)),(9,.s (.int .i64 j))]∧o=[(0,eP ms),(1,eK A),(2,.cells [.s (.int .u64 v0),.s (.int .u64 v1),.s (.int .u64 v2)])],⟨A.length,?_⟩,?_⟩
 ·exact⟨[],[some 0,some 1,some 2],_,_,_,t3,⟨0,false,Nat.zero_le _,rfl,(fun h=>by obtain⟨a,ha,_⟩:=h;cases ha),rfl,rfl,rfl⟩⟩
 rintro k f1 o1 c1 ⟨j,met,hj,rfl,X0,rfl,rfl,rfl⟩;have hwj:IntKind.i64.wrap ((j:Int)+1)=((j+1:Nat):Int):=IntWalk.i64_in _ om;refine wh ?_;refine sp ?_ ?_<;>intro M7;rotate_left
 ·have M7:¬j<A.length:=fun q=>M7 (vF.2 q);obtain rfl:j=A.length:=by omega
  obtain rfl:met=true:=X0 ⟨a0,by rw[List.take_length];exact ha0,en0,ek0⟩;refine wh ?_;rw[oL];refine⟨ms.length - (i+1),?_,om⟩;exact⟨[],[some 0,some 1,some 2],_,_,_,t3,⟨i+1,h,rfl,rfl,rfl,rfl⟩⟩
 have M7:j<A.length:=vF.1 M7;have ga:(A.map MI)[(j:Int).toNat]? =some (MI A[j]):=by rw[Int.toNat_natCast,List.getElem?_map,List.getElem?_eq_getElem M7];rfl
 have YX:=gj A j M7;have haA:=List.getElem_mem M7;generalize A[j]=a at ga YX haA;have ha:=iY a haA;have QB:¬(a.num=m.num∧a.key=m.key)→(∃b∈A.take (j+1),b.num=m.num∧b.key=m.key)→met=true:=fun hq ⟨b,hb,q⟩=>by
  rw[YX]at hb;rcases List.mem_append.1 hb with hb|hb
  ·exact X0 ⟨b,hb,q⟩
  ·rw[List.mem_singleton]at hb;rw[hb]at q;exact absurd q hq
 obtain⟨an,ak,d0,d1,d2⟩:=a;obtain⟨mk,mf,mt,mc,me,mn,msq,md,mv,msl,mco,mus,mda,TW⟩:=m;have ha:an=mn→ak=TW→(ig.mk an ak d0 d1 d2).at_ TW≤mv∧mv≤(if TW=0 then v0 else if TW=1 then v1 else v2):=ha;have QB:¬(an=mn∧ak=TW)→(∃b∈A.take (j+1),b.num=mn∧b.key=TW)→met=true:=QB;have k0:0≤TW:=k0;have k2:TW≤2:=k2;by_cases hq:an=mn∧ak=TW;rotate_left
 ·refine wh ?_;refine⟨⟨om,by rw[List.length_map];omega⟩,_,ga,?_⟩;refine wh ?_;refine⟨⟨om,by rw[List.length_map];omega⟩,_,gm,?_⟩;refine wh ?_;refine sp ?_ ?_<;>intro e1
  ·refine wh ?_;refine⟨⟨om,by rw[List.length_map];omega⟩,_,gm,?_⟩;refine wh ?_;refine sp ?_ ?_<;>intro e2
   ·exact absurd ⟨e1,e2⟩ hq
   refine wh ?_;rw[hwj];refine⟨A.length - (j+1),?_,om⟩;exact⟨[],[some 0,some 1,some 2],_,_,_,t3,⟨j+1,met,M7,rfl,QB hq,rfl,rfl,rfl⟩⟩
  refine wh ?_;rw[hwj];refine⟨A.length - (j+1),?_,om⟩;exact⟨[],[some 0,some 1,some 2],_,_,_,t3,⟨j+1,met,M7,rfl,QB hq,rfl,rfl,rfl⟩⟩
 obtain⟨rfl,rfl⟩:=hq;obtain⟨g1,g2⟩:=ha rfl rfl;have QS:ak=0∨ak=1∨ak=2:=by omega
 clear X0 QB iY Hm ha;rcases QS with rfl |rfl |rfl
 all_goals
  refine wh ?_;refine⟨⟨om,by rw[List.length_map];omega⟩,_,ga,?_⟩;refine wh ?_;refine⟨⟨om,by rw[List.length_map];omega⟩,_,gm,?_⟩;refine wh ?_;refine sp ?_ ?_<;>intro e1;rotate_left
  ·exact absurd rfl e1
  refine wh ?_;refine⟨⟨om,by rw[List.length_map];omega⟩,_,gm,?_⟩;refine wh ?_;refine sp ?_ ?_<;>intro e2;rotate_left
  ·exact absurd rfl e2
  refine wh ?_;refine⟨⟨om,by rw[List.length_map];omega⟩,_,gm,?_⟩;refine wh ?_;refine⟨⟨by dsimp only;omega,by dsimp only;omega⟩,?_⟩;refine wh ?_;refine sp ?_ ?_<;>intro g3;rotate_left
  ·exact absurd g1 g3
  refine wh ?_;refine⟨⟨om,by rw[List.length_map];omega⟩,_,gm,?_⟩;refine wh ?_;refine⟨⟨by dsimp only;omega,by dsimp only;omega⟩,?_⟩;refine wh ?_;refine sp ?_ ?_<;>intro g4;rotate_left
  ·exact absurd g2 g4
  refine wh ?_;rw[hwj];refine⟨A.length - (j+1),?_,om⟩;exact⟨[],[some 0,some 1,some 2],_,_,_,t3,⟨j+1,true,M7,rfl,fun _=>rfl,rfl,rfl,rfl⟩⟩
end Go.M
namespace Go.M
open Go Go.RowKit Go.Proofs
theorem TX:(Tryz.prog.info? 106).map (fun i=>(i.zero,i.size,i.bytes))=some (some (.agg #[.int .u64 0,.int .i64 0,.int .u64 0,.int .u32 0]),4,32):=by kernel_rfl
@[reducible] def BB:List Value:=[.int .u64 0,.int .i64 0,.int .u64 0,.int .u32 0]
set_option maxRecDepth 1000000 in
set_option maxRecDepth 1000000 in
theorem Iz (w:World) (ty:TypeId) (b o n c:Nat) (hn:n=1) (hc:∀j,j<4→(w.cell? ⟨b,o+j,none⟩).isSome=true) (hf:∀j,j<4→w.frozen? ⟨b,o+j,none⟩=false):
 (Builtin.clear_ #[119] ty #[.slice (some ⟨b,o,none⟩) n c]).run Tryz.prog w= .ok (.tuple #[]) (w.setCells b o BB):=by
 subst hn;show(Builtin.clear_ #[119] ty #[.slice (some ⟨b,o,none⟩) (0+1) c]).run Tryz.prog w=_;have hE:=Ut Tryz.prog jJ;have hu:(ij Tryz.prog jJ).desc 119=some (.slice 106):=by kernel_rfl
 have hz:(ij Tryz.prog jJ).zero 106=some (.agg #[.int .u64 0,.int .i64 0,.int .u64 0,.int .u32 0]):=by kernel_rfl
 have bW:=run_storeCells_cells (P:=Tryz.prog) b o BB 0 w (by simpa using hc) (by simpa using hf) (by intro v hv;simp at hv;rcases hv with rfl |rfl |rfl |rfl<;>rfl);simp only[Nat.add_zero]at bW;have Uf:(Builtin.zeroCells (Value.agg #[.int .u64 0,.int .i64 0,.int .u64 0,.int .u32 0]).cells (0+1)).toList=BB:=by kernel_rfl
 have ht:(#[119]:Array TypeId)[0]? =some 119:=rfl;have ha:(#[Value.slice (some ⟨b,o,none⟩) (0+1) c]:Array Value)[0]? =some (Value.slice (some ⟨b,o,none⟩) (0+1) c):=rfl;unfold Builtin.clear_;simp only[ht,ha,Sem.run_bind,aH hE hu w,Result.andThen_ok,j6 hE hz w,Uf,bW,Sem.run_pure]
set_option maxHeartbeats 4000000 in
set_option maxRecDepth 1000000 in
set_option maxRecDepth 1000000 in
theorem TY (b off len cap i j:Nat) (cs:List Value) (w:World) (hl:cs.length=len*4) (IM:len≤cap) (hi:i<len) (hj:j=i+1)
 (hc:∀t v,cs[t]? =some v→w.cell? ⟨b,off+t,none⟩=some v) (hf:∀t,t<cs.length→w.frozen? ⟨b,off+t,none⟩=false) (h1:∀v∈cs,v.oneCell'=true):
 Calls Tryz.prog 120 #[.slice (some ⟨b,off,none⟩) len cap,.int .i64 i,.int .i64 j] w fun e w'=>e= .returned (.slice (some ⟨b,off,none⟩) (len - 1) cap)∧
  w'=(w.drew.setCells b (off+i*4) (cs.drop (j*4))).setCells b (off+(len - 1)*4) BB:=by
 obtain⟨i0,Jb,Cw,RL,Q3⟩:=info_parts TX;obtain⟨news,F6⟩:∃news,news=cs.drop (j*4):=⟨_,rfl⟩;have hlen:news.length=(len - j)*4:=by rw[F6];simp;omega
 have dK:∀t u,news[t]? =some u→w.cell? ⟨b,off+j*4+t,none⟩=some u:=by
  intro t u hu;rw[F6,List.getElem?_drop]at hu;rw[show off+j*4+t=off+(j*4+t) by omega];exact hc _ _ hu
 have QC:∀t,t<cs.length→(w.cell? ⟨b,off+t,none⟩).isSome=true:=fun t ht=>by rw[hc t cs[t] (by simp[ht])];rfl
 obtain⟨A,hA,aeR⟩:∃A:Addr,(if cap=j then some (⟨b,off,none⟩:Addr)else some ⟨b,off+j*4,none⟩)=some A∧Hid (∀t u,news[t]? =some u→w.drew.cell? (A.add t)=some u):=by
  by_cases h:cap=j
  ·refine⟨⟨b,off,none⟩,by simp[h],fun t u hu=>?_⟩;have h0:news.length=0:=by rw[hlen];omega
   rw[List.length_eq_zero_iff.1 h0]at hu;simp at hu
  ·refine⟨⟨b,off+j*4,none⟩,by simp[h],fun t u hu=>?_⟩;rw[Addr.add_lit];exact dK t u hu
 have s1:Hid (news.length=(len - j)*4):=hlen;have s2:Hid (∀u∈news,u.oneCell'=true):=by
  intro u hu;rw[F6]at hu;exact h1 u (List.mem_of_mem_drop hu)
 have s3:Hid (∀t,t<news.length→(w.drew.cell? ⟨b,off+i*4+t,none⟩).isSome=true∧w.drew.frozen? ⟨b,off+i*4+t,none⟩=false):=by
  intro t ht;rw[hlen]at ht;rw[show off+i*4+t=off+(i*4+t) by omega];exact⟨QC _ om,hf _ om⟩
 obtain⟨W1,hW1⟩:∃W1,W1=w.drew.setCells b (off+i*4) news:=⟨_,rfl⟩;have hW:Hid (W1=w.drew.setCells b (off+i*4) news):=hW1;have bT:∀ty,(Builtin.clear_ #[119] ty #[.slice (some ⟨b,off+(i+(len - j))*4,none⟩) (len - (i+(len - j))) (cap - (i+(len - j)))]).run Tryz.prog W1= .ok (.tuple #[]) (W1.setCells b (off+(i+(len - j))*4) BB):=fun ty=>by
  refine Iz W1 ty b _ _ _ om (fun t ht=>?_) (fun t ht=>?_)
  ·rw[hW1,World.cell?_setCells_out _ _ _ _ _ (fun _ _=>.inr (by simp only;rw[hlen];omega))];rw[show off+(i+(len - j))*4+t=off+((i+(len - j))*4+t) by omega];exact QC _ om
  ·rw[hW1,World.frozen?_setCells,show off+(i+(len - j))*4+t=off+((i+(len - j))*4+t) by omega];exact hf _ om
 have hN:Hid (news=cs.drop (j*4)):=F6;have hic:i≤cap:=by omega
 have hjc:j≤cap:=by omega
 have M7:j≤len:=by omega
 have Dq:i≤j:=by omega
 have bc:¬(i:Int)=(j:Int):=by omega
 have abH:Hid (i+(len - j)=len - 1):=(by omega:i+(len - j)=len - 1);have abI:Hid (i+(len - j)≤cap):=(by omega:i+(len - j)≤cap);clear hc hf dK QC hW1 F6 h1 hlen hj hi hl
 go_enter Tryz.func120,Tryz.ntmps120
 go_wp2_with fail
 go_region_law (refine step_append_room rfl (.tmp 22) (.tmp 25) 119 rfl 106 i0 4 Tryz.underlying119 Jb RL b off i cap (by simp[Act.eval,Act.put]) A (len - j) (cap - j) news (by simp[Act.eval,Act.put]) s1.out aeR.out s2.out abI.out s3.out ?_;rw[←hW.out])
 go_wp2
 go_ret
 refine⟨?_,by rw[abH.out,hW.out,hN.out]⟩;show Ending.returned (Value.slice (some ⟨b,off,none⟩) (i+(len - j)) cap)=_;rw[abH.out]
end Go.M
namespace Go.M
open Go Go.Proofs
set_option maxRecDepth 1000000
theorem IA:Tryz.prog.follows .mixedOrders=true:=by kernel_rfl
theorem Dk:qN A6 1=true:=by kernel_rfl
theorem X1:HI Tryz.prog A6 4:=Lk (n:=1) IA Dk (fs:=[239]) (bs:=[]) (ps:=[]) (m:=100000) (k:=100000) (by kernel_rfl)
theorem aeS (base B:Nat):iJ Tryz.prog E0 base B:=by
 refine Sz (zero:=BB) (by decide) rfl rfl TY (fun base B=>Sc Dk (fun g hg=>?_) (fun base B=>SC IA base B) base B) base B;simp only[List.mem_cons,List.not_mem_nil,or_false]at hg;rcases hg with rfl;exact X1
theorem gk:VC E0 4 0 [] [] (RR (.s (.bool true)) 0 []):=VC.mono (R:=fun r o c=>r= .s (.bool true)∧o=[]∧c=0)
 (VC.Xg (n:=1) (aw:=[4]) Dk (by show(Tryz.prog.funcs[4]?).isSome=true;kernel_rfl) rfl rfl) fun _ _ _ h=>⟨h.1,h.2.2,h.2.1⟩
end Go.M
