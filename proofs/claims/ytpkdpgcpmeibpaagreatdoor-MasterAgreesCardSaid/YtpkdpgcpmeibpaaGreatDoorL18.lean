/-
  Part 18 of the library that the proof leans on.
-/
import Derived.Test.YtpkdpgcpmeibpaaGreatDoorL12
import Derived.Test.YtpkdpgcpmeibpaaGreatDoorL17
namespace Go.M
open Go Go.Proofs
set_option maxRecDepth 100000
set_option maxHeartbeats 2000000
def gz (l:List CF):List Int:=l.flatMap aG
theorem Co (l:List CF) (j:Nat) (h:j<l.length):gz (l.take (j+1))=gz (l.take j)++aG l[j]:=by
 unfold gz;rw[List.take_succ_eq_append_getElem h,List.flatMap_append];simp
def wX (l:List CF):Prop:=∀(i:Nat) (h:i<l.length),l[i].chain=(i:Int)∧iH l[i]
def fU (l:List CF):Prop:=(1≤l.length∧l.length≤4)∧wX l∧e8 (gz l)
theorem zU {l:List CF} {j:Nat} (h:j<l.length) (hj:wX (l.take j)) (h1:l[j].chain=(j:Int)) (h2:iH l[j]):wX (l.take (j+1)):=by
 intro i hi;have Bn:i<j+1:=by rw[List.length_take]at hi;omega
 rw[List.getElem_take];by_cases e:i=j
 ·subst e;exact⟨h1,h2⟩
 ·have:=hj i (by rw[List.length_take];omega)
  rwa [List.getElem_take]at this
theorem uB {l:List CF} (h:wX l):(gz l).length≤6*l.length:=by
 unfold gz;have:∀l:List CF,(∀c∈l,iH c)→(l.flatMap aG).length≤6*l.length:=by
  intro l
  induction l with
  |nil=>simp
  |cons c l ih=>
   intro h;have h1:=ih fun c hc=>h c (List.mem_cons_of_mem _ hc);have h2:=eA c;have h3:=(h c List.mem_cons_self).2.2.1;rw[List.flatMap_cons,List.length_append,List.length_cons];omega
 refine this l fun c hc=>?_;obtain⟨i,hi,rfl⟩:=List.mem_iff_getElem.1 hc;exact(h i hi).2
open Classical in
open Classical in
theorem KE (l:List CF):VC E0 35 0 [.sl 5 (l.map aF) false] [] (RR (.s (.bool (decide (fU l)))) 0 []):=by
 refine en L0 Tryz.f35 ?_;refine sp ?_ ?_<;>intro h1
 ·have h1:(((l.map aF).length:Nat):Int)<1:=h1;rw[List.length_map]at h1;refine wh ?_;refine⟨[],[],_,_,_,tx ?_,rfl,rfl,rfl⟩;exact Lz.of (ah (Eq.symm (decide_eq_false fun q=>by have:=q.1.1;omega)))
 have h1:¬(((l.map aF).length:Nat):Int)<1:=h1;rw[List.length_map]at h1;refine wh ?_;refine sp ?_ ?_<;>intro h2
 ·have h2:(((l.map aF).length:Nat):Int)>4:=h2;rw[List.length_map]at h2;refine wh ?_;refine⟨[],[],_,_,_,tx ?_,rfl,rfl,rfl⟩;exact Lz.of (ah (Eq.symm (decide_eq_false fun q=>by have:=q.1.2;omega)))
 have h2:¬(((l.map aF).length:Nat):Int)>4:=h2;rw[List.length_map]at h2;refine wh ?_;refine⟨fun k f o c=>∃j:Nat,j≤l.length∧k=l.length - j∧wX (l.take j)∧c=1∧f=[(0,.sl 5 (l.map aF) false),(3,.tk 0),(14,.sl 5 (l.map aF) false),(15,.s (.int .i64 l.length)),(16,.s (.int .i64 j))]∧o=[(0,.arr 1 true ((gz (l.take j)).map aR))],⟨l.length,?_⟩,?_⟩
 ·refine⟨[],[none],?_⟩
  iterate 3 constructor
  refine⟨⟨?_,?_,?_⟩,⟨0,Nat.zero_le _,rfl,(fun i hi=>absurd hi (by simp)),rfl,rfl,rfl⟩⟩
  all_goals(repeat' first|exact LF|constructor)
  all_goals first|exact Lz.int (by rw[List.length_map])|exact Lz.of (by simp[gz])
 ·rintro k f1 o1 c1 ⟨j,hj,rfl,hn,rfl,rfl,rfl⟩;refine wh ?_;refine sp ?_ ?_<;>intro h
  ·have h:j<l.length:=by have:(j:Int)<(l.length:Nat):=h
                         omega
   refine wh ?_;refine eT h ?_;refine wh ?_;refine sp ?_ ?_<;>intro hc
   ·have hc:l[j].chain≠(j:Int):=hc;refine wh ?_;refine⟨[],[],_,_,_,tx ?_,rfl,rfl,rfl⟩;exact Lz.of (ah (Eq.symm (decide_eq_false fun q=>hc (q.2.1 j h).1)))
   ·have hc:l[j].chain=(j:Int):=Classical.not_not.1 hc;refine wh ?_;refine⟨[],[],_,_,_,_,PV l[j],t3,cw ?_⟩;by_cases hr:iH l[j]
    ·rw[decide_eq_true hr];refine wh ?_;refine⟨[],[],_,_,_,_,mh l[j] (by have:=hr.2.2.1;omega),t3,cw ?_⟩;have pF:=eA l[j];have eP:=uB hn;have h5:=hr.2.2.1;have htl:(l.take j).length≤4:=by rw[List.length_take];omega
     refine⟨by simp;omega,?_⟩;refine wh ?_;refine⟨l.length - (j+1),?_,om⟩;refine⟨[],[some 3],_,_,_,tx ?_,⟨j+1,h,rfl,zU h hn hc hr,rfl,rfl,rfl⟩⟩;exact Lz.of (by rw[Co l j h,List.map_append])
    ·rw[decide_eq_false hr];refine wh ?_;refine⟨[],[],_,_,_,tx ?_,rfl,rfl,rfl⟩;exact Lz.of (ah (Eq.symm (decide_eq_false fun q=>hr (q.2.1 j h).2)))
  ·have Gv:j=l.length:=by have:¬(j:Int)<(l.length:Nat):=h
                          omega
   subst Gv;rw[List.take_length]at hn;rw[List.take_length];refine wh ?_;refine⟨[0],[],_,_,_,_,D3 (gz l) (by have:=uB hn;omega),t3,cw ?_⟩;refine⟨[],[],_,_,_,tx ?_,rfl,rfl,rfl⟩;exact Lz.of (ah (decide_eq_decide.2 ⟨fun q=>⟨⟨om,om⟩,hn,q⟩,fun q=>q.2.2⟩))
open Classical in
open Classical in
theorem Jg (l:List CF) (WJ:∀c∈l,0≤c.aq) (hl:l.length<10000):VC E0 31 0 [.sl 5 (l.map aF) false] [] (RR (.s (.bool (decide (fU l)))) 0 []):=by
 refine en L0 Tryz.f31 ?_;refine⟨fun k f o c=>∃j:Nat,j≤l.length∧k=l.length - j∧wX (l.take j)∧c=1∧f=[(0,.sl 5 (l.map aF) false),(3,.tk 0),(4,.s (.int .i64 j))]∧o=[(0,.arr 1 true ((gz (l.take j)).map aR))],⟨l.length,?_⟩,?_⟩
 ·exact⟨[],[none],_,_,_,t3,⟨0,Nat.zero_le _,rfl,(fun i hi=>absurd hi (by simp)),rfl,rfl,rfl⟩⟩
 ·rintro k f1 o1 c1 ⟨j,hj,rfl,hn,rfl,rfl,rfl⟩;refine wh ?_;refine sp ?_ ?_<;>intro h
  ·have h:j<l.length:=dZ.1 h;refine wh ?_;refine eT h ?_;refine wh ?_;refine⟨[],[],_,_,_,_,GO l[j] (WJ _ (List.getElem_mem h)),t3,cw ?_⟩;by_cases hr:iH l[j]
   ·rw[decide_eq_true hr];refine wh ?_;refine eT h ?_;refine wh ?_;refine sp ?_ ?_<;>intro hc
    ·have hc:l[j].chain≠(j:Int):=hc;refine wh ?_;refine⟨[],[],_,_,_,tx ?_,rfl,rfl,rfl⟩;exact Lz.of (ah (Eq.symm (decide_eq_false fun q=>hc (q.2.1 j h).1)))
    ·have hc:l[j].chain=(j:Int):=Classical.not_not.1 hc;refine wh ?_;refine eT h ?_;refine wh ?_;refine⟨[],[],_,_,_,_,D4 l[j] (by have:=hr.2.2.1;omega),t3,cw ?_⟩;have pF:=eA l[j];have eP:=uB hn;have h5:=hr.2.2.1;have htl:(l.take j).length≤l.length:=by rw[List.length_take];omega
     refine⟨by simp;omega,?_⟩;refine wh ?_;refine⟨l.length - (j+1),?_,om⟩;refine⟨[],[some 2],_,_,_,tx ?_,⟨j+1,h,rfl,zU h hn hc hr,rfl,rfl,rfl⟩⟩;exact Lz.of (by rw[Co l j h,List.map_append])
   ·rw[decide_eq_false hr];refine wh ?_;refine⟨[],[],_,_,_,tx ?_,rfl,rfl,rfl⟩;exact Lz.of (ah (Eq.symm (decide_eq_false fun q=>hr (q.2.1 j h).2)))
  ·have Gv:j=l.length:=by have:=mt dZ.2 h
                          omega
   subst Gv;rw[List.take_length]at hn;rw[List.take_length];refine wh ?_;refine sp ?_ ?_<;>intro h1
   ·have h1:(((l.map aF).length:Nat):Int)≥1:=h1;rw[List.length_map]at h1;refine wh ?_;refine sp ?_ ?_<;>intro h2
    ·have h2:(((l.map aF).length:Nat):Int)≤4:=h2;rw[List.length_map]at h2;refine wh ?_;refine⟨[0],[],_,_,_,_,sW (gz l) (by have:=uB hn;omega),t3,cw ?_⟩;refine⟨[],[],_,_,_,tx ?_,rfl,rfl,rfl⟩;exact Lz.of (ah (decide_eq_decide.2 ⟨fun q=>⟨⟨om,om⟩,hn,q⟩,fun q=>q.2.2⟩))
    ·have h2:¬(((l.map aF).length:Nat):Int)≤4:=h2;rw[List.length_map]at h2;refine wh ?_;refine⟨[],[],_,_,_,tx ?_,rfl,rfl,rfl⟩;exact Lz.of (ah (Eq.symm (decide_eq_false fun q=>by have:=q.1.2;omega)))
   ·have h1:¬(((l.map aF).length:Nat):Int)≥1:=h1;rw[List.length_map]at h1;refine wh ?_;refine⟨[],[],_,_,_,tx ?_,rfl,rfl,rfl⟩;exact Lz.of (ah (Eq.symm (decide_eq_false fun q=>by have:=q.1.1;omega)))
end Go.M
namespace Go.M
open Go Go.Proofs
set_option maxRecDepth 100000
set_option maxHeartbeats 2000000
theorem Ml (l m:List Int) (hl:l.length<1000000):VC E0 64 0 [.sl 1 (l.map aR) false,.sl 1 (m.map aR) false] [] (RR (.s (.bool (WE l m))) 0 []):=by
 refine en L0 Tryz.f64 ?_;refine sp ?_ ?_<;>intro hlm
 ·refine wh ?_;refine⟨[],[],?_⟩
  iterate 3 constructor
  refine⟨⟨?_,?_,?_⟩,rfl,rfl,rfl⟩
  all_goals(repeat' first|exact LF|constructor)
  refine Lz.of (ah (Eq.symm (iP.2 fun e=>hlm (by subst e;rfl))))
 ·have hlm:l.length=m.length:=by simp at hlm;omega
  refine wh ?_;refine⟨fun k f o c=>∃i:Nat,i≤l.length∧k=l.length - i∧l.take i=m.take i∧c=0∧f=[(0,.sl 1 (l.map aR) false),(1,.sl 1 (m.map aR) false),(5,.s (.int .i64 i))]∧o=[],⟨l.length,?_⟩,?_⟩
  ·exact⟨[],[],_,_,_,t3,⟨0,Nat.zero_le _,rfl,rfl,rfl,rfl,rfl⟩⟩
  ·rintro k f1 o1 c1 ⟨i,hi,rfl,ht,rfl,rfl,rfl⟩;refine wh ?_;refine sp ?_ ?_<;>intro h
   ·have h:=dZ.1 h;have h2:i<m.length:=by omega
    refine wh ?_;refine eT h ?_;refine wh ?_;refine eT h2 ?_;refine wh ?_;refine sp ?_ ?_<;>intro hv
    ·have hv:l[i]≠m[i]:=hv;refine wh ?_;refine⟨[],[],?_⟩
     iterate 3 constructor
     refine⟨⟨?_,?_,?_⟩,rfl,rfl,rfl⟩
     all_goals(repeat' first|exact LF|constructor)
     refine Lz.of (ah (Eq.symm (iP.2 fun e=>hv (by subst e;rfl))))
    ·have hv:l[i]=m[i]:=Classical.not_not.1 hv;refine wh ?_;refine⟨l.length - (i+1),?_,om⟩;exact⟨[],[],_,_,_,t3,⟨i+1,h,rfl,by rw[gV l i h,gV m i h2,ht,hv],rfl,rfl,rfl⟩⟩
   ·have h:=mt dZ.2 h;refine wh ?_;refine⟨[],[],?_⟩
    iterate 3 constructor
    refine⟨⟨?_,?_,?_⟩,rfl,rfl,rfl⟩
    all_goals(repeat' first|exact LF|constructor)
    refine Lz.of (ah (Eq.symm (ry.2 ?_)));rw[←List.take_of_length_le (Nat.not_lt.1 h),ht,List.take_of_length_le om]
theorem CF.ext' {a b:CF} (h1:a.chain=b.chain) (h2:a.aq=b.aq) (h3:a.nodes=b.nodes) (h4:a.fresh=b.fresh) (h5:a.join=b.join):a=b:=by
 cases a;cases b;simp_all
theorem Mm (a b:CF) (hl:a.nodes.length<1000000):VC E0 32 0 [.agg (aF a),.agg (aF b)] [] (RR (.s (.bool (WE a b))) 0 []):=by
 refine en L0 Tryz.f32 ?_;refine sp ?_ ?_<;>intro h1;rotate_left
 ·have h1:¬a.chain=b.chain:=h1;refine wh ?_;refine⟨[],[],_,_,_,tx ?_,rfl,rfl,rfl⟩;exact Lz.of (ah (Eq.symm (iP.2 fun e=>h1 (by rw[e]))))
 have h1:a.chain=b.chain:=h1;refine wh ?_;refine sp ?_ ?_<;>intro h2;rotate_left
 ·have h2:¬a.aq=b.aq:=h2;refine wh ?_;refine⟨[],[],_,_,_,tx ?_,rfl,rfl,rfl⟩;exact Lz.of (ah (Eq.symm (iP.2 fun e=>h2 (by rw[e]))))
 have h2:a.aq=b.aq:=h2;refine wh ?_;cases h3:(a.fresh==b.fresh)
 ·refine wh ?_;refine⟨[],[],_,_,_,tx ?_,rfl,rfl,rfl⟩;exact Lz.of (ah (Eq.symm (iP.2 fun e=>by rw[e]at h3;simp at h3)))
 refine wh ?_;refine sp ?_ ?_<;>intro h4;rotate_left
 ·have h4:¬a.join=b.join:=h4;refine wh ?_;refine⟨[],[],_,_,_,tx ?_,rfl,rfl,rfl⟩;exact Lz.of (ah (Eq.symm (iP.2 fun e=>h4 (by rw[e]))))
 have h4:a.join=b.join:=h4;refine wh ?_;refine⟨[],[],_,_,_,_,Ml a.nodes b.nodes hl,t3,cw ?_⟩;refine⟨[],[],?_⟩
 iterate 3 constructor
 refine⟨⟨?_,?_,?_⟩,rfl,rfl,rfl⟩
 all_goals(repeat' first|exact LF|constructor)
 refine Lz.of (ah ?_);by_cases hn:a.nodes=b.nodes
 ·rw[ry.2 hn,ry.2 (CF.ext' h1 h2 hn (by simpa using h3) h4)]
 ·rw[iP.2 hn,iP.2 fun e=>hn (by rw[e])]
def cg (l:List Int) (n:Int):List Int:=l.filter fun x=>decide (x≠n)
theorem rZ (l:List Int) (n:Int) (j:Nat) (h:j<l.length):cg (l.take (j+1)) n=cg (l.take j) n++(if l[j]=n then []else [l[j]]):=by
 unfold cg;rw[List.take_succ_eq_append_getElem h,List.filter_append];by_cases e:l[j]=n<;>simp[e]
theorem D5 (l:List Int) (n:Int):(cg l n).length≤l.length:=List.length_filter_le _ _
def eO (c:CF):List Int:=if c.fresh=true then c.nodes.take (c.nodes.length - 1)else c.nodes
def iT (c:CF):Int:=c.nodes.getLast?.getD 0
def uC (x:CF):Int:=if x.aq=18446744073709551615 then 9 else 0
def Tc (l:List CF) (x:CF) (c:cA):Int:=
 if c.kind=1 then(if c.node∉aG x then 7 else if(cg (eO x) c.node).length=0 then 12 else uC x)
 else if c.kind=2 then(if c.node∈gz l then 8 else if x.join≠0∨x.fresh=true then 12 else if x.nodes.length=5 then 9 else uC x)
 else if c.kind=3 then(if x.join≠c.node then 7 else if x.nodes.length=5 then 9 else uC x)
 else(if x.fresh=false∨iT x≠c.node then 7 else uC x)
theorem UO {l:List Int} {K:List TV→Prop} (h:1≤l.length∧l.length≤5) (hK:K (aR (l.getLast?.getD 0))):∃e,(0≤IntKind.i64.wrap ((((l.map aR).length:Nat):Int) - 1)∧(l.map aR)[(IntKind.i64.wrap ((((l.map aR).length:Nat):Int) - 1)).toNat]? =some e)∧K e:=by
 have hw:IntKind.i64.wrap ((((l.map aR).length:Nat):Int) - 1)=((l.length - 1:Nat):Int):=by
  rw[List.length_map,IntWalk.i64_in _ om];omega
 rw[hw];refine⟨_,⟨om,?_⟩,hK⟩;rw[Int.toNat_natCast,List.getElem?_map,←List.getLast?_eq_getElem?];cases hq:l.getLast? with
 |none=>rw[List.getLast?_eq_none_iff]at hq;subst hq;exact absurd h.1 (by decide)
 |some a=>rfl
open Classical in
noncomputable def jU (l:List CF) (c:cA):Int:=
 if¬fU l then 1 else if c.check≠0 then c.check else if c.kind=0 then 0 else
 match l[c.chain.toNat]? with
 |none=>7
 |some x=>if x.aq≠c.aq then 10 else Tc l x c
theorem oj {c:cA} (h:c.check=0) (hk:c.kind≠0):0≤c.chain∧c.chain<4∧1≤c.aq∧(0≤c.kind∧c.kind<5)∧1≤c.node∧c.node≤24:=by
 unfold cA.check zL at h
 repeat' split at h
 all_goals first|omega |(exact absurd h (by decide))|(exfalso;omega)
theorem ke {l:List CF} (h:fU l) {c:CF} (hc:c∈l):iH c:=by
 obtain⟨i,hi,rfl⟩:=List.mem_iff_getElem.1 hc;exact(h.2.1 i hi).2
theorem Td (c:CF) (h5:1≤c.nodes.length∧c.nodes.length≤5):VC E0 227 0 [.agg (aF c)] [] (RR (.s (.int .i64 (iT c))) 0 []):=by
 refine en L0 Tryz.f227 ?_;refine UO h5 ?_;refine wh ?_;exact⟨[],[],_,_,_,t3,rfl,rfl,rfl⟩
theorem Jh (c:CF) (h5:1≤c.nodes.length∧c.nodes.length≤5):VC E0 225 0 [.agg (aF c)] [] (RR (.tk 0) 1 [(0,.arr 1 true ((eO c).map aR))]):=by
 refine en L0 Tryz.f225 ?_;cases hf:c.fresh
 ·refine wh ?_;refine⟨[],[],_,_,_,_,iS c.nodes om,t3,cw ?_⟩;refine⟨[],[some 1],_,_,_,tx ?_,rfl,rfl,rfl⟩;exact Lz.of (by unfold eO;rw[hf];simp)
 ·refine wh ?_;have hw:IntKind.i64.wrap ((((c.nodes.map aR).length:Nat):Int) - 1)=((c.nodes.length - 1:Nat):Int):=by
   rw[List.length_map,IntWalk.i64_in _ om];omega
  refine⟨by rw[hw,List.length_map];omega,?_⟩;refine wh ?_;refine⟨[],[],_,_,_,_,iS (c.nodes.take (c.nodes.length - 1)) (by rw[List.length_take];omega),⟨by((repeat' first|exact LF|constructor);all_goals(exact Lz.of (by rw[hw];simp[List.map_take]))),by((repeat' first|exact LF|constructor);all_goals(exact Lz.of (by rw[hw];simp[List.map_take]))),by rfl⟩,?_⟩;rintro r o' c' ⟨rfl,rfl,rfl⟩;refine wh ?_;refine⟨[],[some 1],_,_,_,tx ?_,rfl,rfl,rfl⟩;exact Lz.of (by unfold eO;rw[hf];simp)
end Go.M
namespace Go.M
open Go Go.Proofs
set_option maxRecDepth 100000
set_option maxHeartbeats 2000000
@[reducible] def HD (n:Int):Ob:=[(0,.cells [.s (.int .i64 n)])]
def jV (n m:Int):Bool:=decide (m≠n)
theorem WK (n m:Int):VC E0 226 1 [.s (.int .i64 m),.ptr 0 0] (HD n) (RR (.s (.bool (jV n m))) 1 (HD n)):=by
 refine en L0 Tryz.f226 ?_;refine sp ?_ ?_<;>intro h
 ·have h:m≠n:=h;refine wh ?_;refine⟨[],[some 0],_,_,_,tx ?_,rfl,rfl,rfl⟩;exact Lz.of (ah (Eq.symm (decide_eq_true h)))
 ·have h:¬m≠n:=h;refine wh ?_;refine⟨[],[some 0],_,_,_,tx ?_,rfl,rfl,rfl⟩;exact Lz.of (ah (Eq.symm (decide_eq_false h)))
theorem aaj (n:Int) (vs:List Int) (hl:vs.length<1000000):VC E0 249 1 [.sl 1 (vs.map aR) false,.dc 226 [] [.ptr 0 0]] (HD n)
 (fun r o c'=>∃i:Int,r= .s (.int .i64 i)∧c'=1∧o=HD n∧((i= -1∧∀v∈vs,jV n v=false)∨0≤i∧∃v∈vs,jV n v=true)):=by
 refine en L0 Tryz.f249 ?_;refine⟨fun k f o c'=>∃j:Nat,j≤vs.length∧k=vs.length - j∧(∀v∈vs.take j,jV n v=false)∧c'=1∧f=[(0,.sl 1 (vs.map aR) false),(1,.dc 226 [] [.ptr 0 0]),(7,.s (.int .i64 vs.length)),(8,.s (.int .i64 j))]∧o=HD n,⟨vs.length,?_⟩,?_⟩
 ·refine⟨[],[some 0],?_⟩
  iterate 3 constructor
  refine⟨⟨?_,?_,?_⟩,⟨0,Nat.zero_le _,rfl,by simp,rfl,rfl,rfl⟩⟩
  all_goals(repeat' first|exact LF|constructor)
  all_goals first|exact Lz.of (by simp[goInt])|exact Lz.rfl
 ·rintro k f1 o1 c1 ⟨j,hj,rfl,hb,rfl,rfl,rfl⟩;refine wh ?_;refine sp ?_ ?_<;>intro h
  ·have h:j<vs.length:=by simpa using h
   refine wh ?_;refine eT h ?_;refine wh ?_;refine⟨[],[some 0],_,_,_,_,WK n vs[j],t3,?_⟩;rintro r o' c' ⟨rfl,rfl,rfl⟩;have bm:=True.intro;clear bm;cases hv:jV n vs[j]
   ·refine wh ?_;refine⟨vs.length - (j+1),?_,om⟩;exact⟨[],[some 0],_,_,_,t3,⟨j+1,h,rfl,by intro v pD;rw[List.take_succ_eq_append_getElem h]at pD;rcases List.mem_append.1 pD with h1|h1;exact hb v h1;simp at h1;subst h1;exact hv,rfl,rfl,rfl⟩⟩
   ·refine wh ?_;exact⟨[],[some 0],_,_,_,t3,(j:Int),rfl,rfl,rfl,.inr ⟨om,_,List.getElem_mem h,hv⟩⟩
  ·have h':j=vs.length:=by have:¬j<vs.length:=by simpa using h
                           omega
   subst h';rw[List.take_length]at hb;refine wh ?_;exact⟨[],[some 0],_,_,_,t3,-1,rfl,rfl,rfl,.inl ⟨rfl,hb⟩⟩
theorem D6 (n:Int) (vs:List Int) (hl:vs.length<1000000):VC E0 224 1 [.sl 1 (vs.map aR) false,.dc 226 [] [.ptr 0 0]] (HD n) (RR (.s (.bool (vs.any (jV n)))) 1 (HD n)):=by
 refine en L0 Tryz.f224 ?_;refine⟨[],[some 0],_,_,_,_,aaj n vs hl,t3,?_⟩;rintro r o' c' ⟨i,rfl,rfl,rfl,hi⟩;refine wh ?_;refine sp ?_ ?_<;>intro h
 ·have h:i≥0:=h;refine wh ?_;refine⟨[],[some 0],?_⟩
  iterate 3 constructor
  refine⟨⟨?_,?_,?_⟩,rfl,rfl,rfl⟩
  all_goals(repeat' first|exact LF|constructor)
  refine Lz.of (ah (Eq.symm ?_));rcases hi with⟨e,_⟩|⟨_,v,hv,hs⟩
  ·omega
  ·exact List.any_eq_true.2 ⟨v,hv,hs⟩
 ·have h:¬i≥0:=h;refine wh ?_;refine⟨[],[some 0],?_⟩
  iterate 3 constructor
  refine⟨⟨?_,?_,?_⟩,rfl,rfl,rfl⟩
  all_goals(repeat' first|exact LF|constructor)
  refine Lz.of (ah (Eq.symm ?_));rcases hi with⟨_,cC⟩|⟨e,_⟩
  ·exact List.any_eq_false.2 fun v hv=>by rw[cC v hv];simp
  ·omega
def qC (n:Int) (c:CF):Bool:=decide (n∈aG c)
theorem PW (n:Int) (c:CF) (h:c.nodes.length<10000):VC E0 251 1 [.agg (aF c),.ptr 0 0] (HD n) (RR (.s (.bool (qC n c))) 1 (HD n)):=by
 have pF:=eA c;refine en L0 Tryz.f251 ?_;refine⟨[],[],_,_,_,_,mh c om,t3,cw ?_⟩;refine⟨[2],[],_,_,_,_,jq (aG c) n om,t3,cw ?_⟩;exact⟨[],[some 0],_,_,_,t3,rfl,rfl,rfl⟩
theorem aak (n:Int) (vs:List CF) (hl:vs.length<1000000) (hn:∀c∈vs,c.nodes.length<10000):VC E0 258 1 [.sl 5 (vs.map aF) false,.dc 251 [] [.ptr 0 0]] (HD n)
 (fun r o c'=>∃i:Int,r= .s (.int .i64 i)∧c'=1∧o=HD n∧((i= -1∧∀v∈vs,qC n v=false)∨0≤i∧∃v∈vs,qC n v=true)):=by
 have Ol:∀{j:Nat} (h:j<vs.length),vs[j].nodes.length<10000:=fun h=>hn _ (List.getElem_mem h);refine en L0 Tryz.f258 ?_;refine⟨fun k f o c'=>∃j:Nat,j≤vs.length∧k=vs.length - j∧(∀v∈vs.take j,qC n v=false)∧c'=1∧f=[(0,.sl 5 (vs.map aF) false),(1,.dc 251 [] [.ptr 0 0]),(7,.s (.int .i64 vs.length)),(8,.s (.int .i64 j))]∧o=HD n,⟨vs.length,?_⟩,?_⟩
 ·refine⟨[],[some 0],?_⟩
  iterate 3 constructor
  refine⟨⟨?_,?_,?_⟩,⟨0,Nat.zero_le _,rfl,by simp,rfl,rfl,rfl⟩⟩
  all_goals(repeat' first|exact LF|constructor)
  all_goals first|exact Lz.of (by simp[goInt])|exact Lz.rfl
 ·rintro k f1 o1 c1 ⟨j,hj,rfl,hb,rfl,rfl,rfl⟩;refine wh ?_;refine sp ?_ ?_<;>intro h
  ·have h:j<vs.length:=by simpa using h
   refine wh ?_;refine eT h ?_;refine wh ?_;refine⟨[],[some 0],_,_,_,_,PW n vs[j] (Ol h),t3,?_⟩;rintro r o' c' ⟨rfl,rfl,rfl⟩;have bm:=True.intro;clear bm;cases hv:qC n vs[j]
   ·refine wh ?_;refine⟨vs.length - (j+1),?_,om⟩;exact⟨[],[some 0],_,_,_,t3,⟨j+1,h,rfl,by intro v pD;rw[List.take_succ_eq_append_getElem h]at pD;rcases List.mem_append.1 pD with h1|h1;exact hb v h1;simp at h1;subst h1;exact hv,rfl,rfl,rfl⟩⟩
   ·refine wh ?_;exact⟨[],[some 0],_,_,_,t3,(j:Int),rfl,rfl,rfl,.inr ⟨om,_,List.getElem_mem h,hv⟩⟩
  ·have h':j=vs.length:=by have:¬j<vs.length:=by simpa using h
                           omega
   subst h';rw[List.take_length]at hb;refine wh ?_;exact⟨[],[some 0],_,_,_,t3,-1,rfl,rfl,rfl,.inl ⟨rfl,hb⟩⟩
theorem Ji (n:Int) (vs:List CF) (hl:vs.length<1000000) (hn:∀c∈vs,c.nodes.length<10000):VC E0 250 1 [.sl 5 (vs.map aF) false,.dc 251 [] [.ptr 0 0]] (HD n) (RR (.s (.bool (vs.any (qC n)))) 1 (HD n)):=by
 refine en L0 Tryz.f250 ?_;refine⟨[],[some 0],_,_,_,_,aak n vs hl hn,t3,?_⟩;rintro r o' c' ⟨i,rfl,rfl,rfl,hi⟩;refine wh ?_;refine sp ?_ ?_<;>intro h
 ·have h:i≥0:=h;refine wh ?_;refine⟨[],[some 0],?_⟩
  iterate 3 constructor
  refine⟨⟨?_,?_,?_⟩,rfl,rfl,rfl⟩
  all_goals(repeat' first|exact LF|constructor)
  refine Lz.of (ah (Eq.symm ?_));rcases hi with⟨e,_⟩|⟨_,v,hv,hs⟩
  ·omega
  ·exact List.any_eq_true.2 ⟨v,hv,hs⟩
 ·have h:¬i≥0:=h;refine wh ?_;refine⟨[],[some 0],?_⟩
  iterate 3 constructor
  refine⟨⟨?_,?_,?_⟩,rfl,rfl,rfl⟩
  all_goals(repeat' first|exact LF|constructor)
  refine Lz.of (ah (Eq.symm ?_));rcases hi with⟨_,cC⟩|⟨e,_⟩
  ·exact List.any_eq_false.2 fun v hv=>by rw[cC v hv];simp
  ·omega
theorem Mn (l:List CF) (n:Int):l.any (qC n)=decide (n∈gz l):=by
 rw[Bool.eq_iff_iff,List.any_eq_true,decide_eq_true_iff];unfold gz qC;rw[List.mem_flatMap];exact⟨fun⟨x,h,q⟩=>⟨x,h,of_decide_eq_true q⟩,fun⟨x,h,q⟩=>⟨x,h,decide_eq_true q⟩⟩
theorem Te (l:List CF) (n:Int) (hl:l.length<10000) (hn:∀c∈l,c.nodes.length<10000):VC E0 230 0 [.sl 5 (l.map aF) false,.s (.int .i64 n)] [] (RR (.s (.bool (decide (n∈gz l)))) 0 []):=by
 refine en L0 Tryz.f230 ?_;refine⟨[],[some 0],_,_,_,_,Ji n l om hn,t3,?_⟩;rintro r o' c' ⟨rfl,rfl,rfl⟩;rw[Mn];refine wh ?_;exact⟨[],[],_,_,_,t3,rfl,rfl,rfl⟩
def jA (l:List CF) (x:CF) (k n:Int):Int:=
 if k=1 then(if n∉aG x then 7 else if(eO x).any (jV n)=false then 12 else 0)
 else if k=2 then(if n∈gz l then 8 else if x.join≠0∨x.fresh=true then 12 else if x.nodes.length≥5 then 9 else 0)
 else if k=3 then(if x.join≠n then 7 else if x.nodes.length≥5 then 9 else 0)
 else(if x.fresh=false∨iT x≠n then 7 else 0)
theorem wY (l:List Int) (n:Int):(cg l n).length=0↔l.any (jV n)=false:=by
 rw[List.length_eq_zero_iff,List.any_eq_false];unfold cg jV;rw[List.filter_eq_nil_iff]
theorem D7 {l:List CF} {x:CF} {c:cA} (hr:iH x):Tc l x c=if jA l x c.kind c.node≠0 then jA l x c.kind c.node else uC x:=by
 have h5:=hr.2.2.1;unfold Tc jA;by_cases k1:c.kind=1
 ·rw[if_pos k1,if_pos k1];by_cases a:c.node∉aG x
  ·rw[if_pos a,if_pos a];rfl
  ·rw[if_neg a,if_neg a];by_cases b:(eO x).any (jV c.node)=false
   ·rw[if_pos b,if_pos ((wY _ _).2 b)];rfl
   ·rw[if_neg b,if_neg (mt (wY _ _).1 b)];rfl
 rw[if_neg k1,if_neg k1];by_cases k2:c.kind=2
 ·rw[if_pos k2,if_pos k2];by_cases a:c.node∈gz l
  ·rw[if_pos a,if_pos a];rfl
  ·rw[if_neg a,if_neg a];by_cases b:x.join≠0∨x.fresh=true
   ·rw[if_pos b,if_pos b];rfl
   ·rw[if_neg b,if_neg b];by_cases d:x.nodes.length≥5
    ·rw[if_pos d,if_pos om];rfl
    ·rw[if_neg d,if_neg om];rfl
 rw[if_neg k2,if_neg k2];by_cases k3:c.kind=3
 ·rw[if_pos k3,if_pos k3];by_cases a:x.join≠c.node
  ·rw[if_pos a,if_pos a];rfl
  ·rw[if_neg a,if_neg a];by_cases d:x.nodes.length≥5
   ·rw[if_pos d,if_pos om];rfl
   ·rw[if_neg d,if_neg om];rfl
 rw[if_neg k3,if_neg k3];by_cases a:x.fresh=false∨iT x≠c.node
 ·rw[if_pos a,if_pos a];rfl
 ·rw[if_neg a,if_neg a];rfl
theorem D8 (l:List CF) (x:CF) (n:Int) (hr:iH x):VC E0 190 0 [.sl 5 (l.map aF) false,.agg (aF x),.s (.int .i64 n)] [] (RR (.s (.int .i64 (jA l x 1 n))) 0 []):=by
 have h5:=hr.2.2.1;have pF:=eA x;have hC:jA l x 1 n=if n∉aG x then 7 else if(eO x).any (jV n)=false then 12 else 0:=by unfold jA;rw[if_pos rfl]
 refine en L0 Tryz.f190 ?_;refine⟨[],[],_,_,_,_,mh x om,t3,cw ?_⟩;refine⟨[2],[],_,_,_,_,jq (aG x) n om,t3,?_⟩;rintro r o' c' ⟨rfl,rfl,rfl⟩;by_cases hm:n∈aG x
 ·rw[if_neg (fun q=>q hm)]at hC;rw[decide_eq_true hm];refine wh ?_;have wo:(eO x).length≤x.nodes.length:=by unfold eO;split<;>simp
  refine⟨[],[],_,_,_,_,Jh x h5,t3,cw ?_⟩;refine⟨[3],[some 1],_,_,_,_,D6 n (eO x) om,t3,?_⟩;rintro r o' c' ⟨rfl,rfl,rfl⟩;by_cases ha:(eO x).any (jV n)=true
  ·rw[if_neg (by rw[ha];decide)]at hC;rw[ha];refine wh ?_;refine⟨[],[],_,_,_,tx ?_,rfl,rfl,rfl⟩;exact Lz.int hC.symm
  ·rw[if_pos (Bool.eq_false_iff.2 ha)]at hC;rw[Bool.eq_false_iff.2 ha];refine wh ?_;refine⟨[],[],_,_,_,tx ?_,rfl,rfl,rfl⟩;exact Lz.int hC.symm
 ·rw[if_pos hm]at hC;rw[decide_eq_false hm];refine wh ?_;refine⟨[],[],_,_,_,tx ?_,rfl,rfl,rfl⟩;exact Lz.int hC.symm
theorem D9 (l:List CF) (x:CF) (n:Int) (hl:l.length<10000) (hn:∀c∈l,c.nodes.length<10000):VC E0 192 0 [.sl 5 (l.map aF) false,.agg (aF x),.s (.int .i64 n)] [] (RR (.s (.int .i64 (jA l x 2 n))) 0 []):=by
 have hC:jA l x 2 n=if n∈gz l then 8 else if x.join≠0∨x.fresh=true then 12 else if x.nodes.length≥5 then 9 else 0:=by unfold jA;rw[if_neg (by decide),if_pos rfl]
 refine en L0 Tryz.f192 ?_;refine⟨[],[],_,_,_,_,Te l n hl hn,t3,?_⟩;rintro r o' c' ⟨rfl,rfl,rfl⟩;by_cases hm:n∈gz l
 ·rw[if_pos hm]at hC;rw[decide_eq_true hm];refine wh ?_;refine⟨[],[],_,_,_,tx ?_,rfl,rfl,rfl⟩;exact Lz.int hC.symm
 ·rw[if_neg hm]at hC;rw[decide_eq_false hm];refine wh ?_;refine sp ?_ ?_<;>intro hj
  ·have hj:x.join≠0:=hj;rw[if_pos (.inl hj)]at hC;refine wh ?_;refine⟨[],[],_,_,_,tx ?_,rfl,rfl,rfl⟩;exact Lz.int hC.symm
  ·have hj:x.join=0:=Classical.not_not.1 hj;refine wh ?_;cases hf:x.fresh
   ·rw[if_neg (by rw[hj,hf];simp)]at hC;refine wh ?_;refine sp ?_ ?_<;>intro hz
    ·have hz:(((x.nodes.map aR).length:Nat):Int)≥5:=hz;rw[List.length_map]at hz;rw[if_pos om]at hC;refine wh ?_;refine⟨[],[],_,_,_,tx ?_,rfl,rfl,rfl⟩;exact Lz.int hC.symm
    ·have hz:¬(((x.nodes.map aR).length:Nat):Int)≥5:=hz;rw[List.length_map]at hz;rw[if_neg om]at hC;refine wh ?_;refine⟨[],[],_,_,_,tx ?_,rfl,rfl,rfl⟩;exact Lz.int hC.symm
   ·rw[if_pos (.inr hf)]at hC;refine wh ?_;refine⟨[],[],_,_,_,tx ?_,rfl,rfl,rfl⟩;exact Lz.int hC.symm
theorem Bg (l:List CF) (x:CF) (n:Int):VC E0 194 0 [.sl 5 (l.map aF) false,.agg (aF x),.s (.int .i64 n)] [] (RR (.s (.int .i64 (jA l x 3 n))) 0 []):=by
 have hC:jA l x 3 n=if x.join≠n then 7 else if x.nodes.length≥5 then 9 else 0:=by unfold jA;rw[if_neg (by decide),if_neg (by decide),if_pos rfl]
 refine en L0 Tryz.f194 ?_;refine sp ?_ ?_<;>intro hj
 ·have hj:x.join≠n:=hj;rw[if_pos hj]at hC;refine wh ?_;refine⟨[],[],_,_,_,tx ?_,rfl,rfl,rfl⟩;exact Lz.int hC.symm
 ·have hj:¬x.join≠n:=hj;rw[if_neg hj]at hC;refine wh ?_;refine sp ?_ ?_<;>intro hz
  ·have hz:(((x.nodes.map aR).length:Nat):Int)≥5:=hz;rw[List.length_map]at hz;rw[if_pos om]at hC;refine wh ?_;refine⟨[],[],_,_,_,tx ?_,rfl,rfl,rfl⟩;exact Lz.int hC.symm
  ·have hz:¬(((x.nodes.map aR).length:Nat):Int)≥5:=hz;rw[List.length_map]at hz;rw[if_neg om]at hC;refine wh ?_;refine⟨[],[],_,_,_,tx ?_,rfl,rfl,rfl⟩;exact Lz.int hC.symm
theorem Ea (l:List CF) (x:CF) (k n:Int) (hr:iH x) (k1:k≠1) (k2:k≠2) (k3:k≠3):VC E0 196 0 [.sl 5 (l.map aF) false,.agg (aF x),.s (.int .i64 n)] [] (RR (.s (.int .i64 (jA l x k n))) 0 []):=by
 have hC:jA l x k n=if x.fresh=false∨iT x≠n then 7 else 0:=by unfold jA;rw[if_neg k1,if_neg k2,if_neg k3]
 refine en L0 Tryz.f196 ?_;cases hf:x.fresh
 ·rw[if_pos (.inl hf)]at hC;refine wh ?_;refine⟨[],[],_,_,_,tx ?_,rfl,rfl,rfl⟩;exact Lz.int hC.symm
 ·refine wh ?_;refine⟨[],[],_,_,_,_,Td x hr.2.2.1,⟨by((repeat' first|exact LF|constructor);all_goals(exact Lz.of (ah hf.symm))),by((repeat' first|exact LF|constructor);all_goals(exact Lz.of (ah hf.symm))),by rfl⟩,?_⟩;rintro r o' c' ⟨rfl,rfl,rfl⟩;refine wh ?_;refine sp ?_ ?_<;>intro Is
  ·have Is:iT x≠n:=Is;rw[if_pos (.inr Is)]at hC;refine wh ?_;refine⟨[],[],_,_,_,tx ?_,rfl,rfl,rfl⟩;exact Lz.int hC.symm
  ·have Is:¬iT x≠n:=Is;rw[if_neg (by rw[hf];simpa using Is)]at hC;refine wh ?_;refine⟨[],[],_,_,_,tx ?_,rfl,rfl,rfl⟩;exact Lz.int hC.symm
theorem PY:VC E0 142 0 [.s (.int .i64 1)] [] (RR (.agg [.dc 190 [] [],.dc 191 [] []]) 0 []):=by
 refine en L0 Tryz.f142 ?_
 repeat((first|(refine⟨fun h_=>?_,fun h_=>?_⟩)|(refine cU (fun h_=>?_) (fun h_=>?_))|(refine cS (fun h_=>?_) (fun h_=>?_)))<;>first|(exfalso;revert h_;decide;done)|(exact absurd rfl h_)|(have bm:=True.intro;clear bm;(conv=>whnf)))
 exact⟨[],[],_,_,_,t3,rfl,rfl,rfl⟩
theorem PZ:VC E0 142 0 [.s (.int .i64 2)] [] (RR (.agg [.dc 192 [] [],.dc 193 [] []]) 0 []):=by
 refine en L0 Tryz.f142 ?_
 repeat((first|(refine⟨fun h_=>?_,fun h_=>?_⟩)|(refine cU (fun h_=>?_) (fun h_=>?_))|(refine cS (fun h_=>?_) (fun h_=>?_)))<;>first|(exfalso;revert h_;decide;done)|(exact absurd rfl h_)|(have bm:=True.intro;clear bm;(conv=>whnf)))
 exact⟨[],[],_,_,_,t3,rfl,rfl,rfl⟩
theorem P0:VC E0 142 0 [.s (.int .i64 3)] [] (RR (.agg [.dc 194 [] [],.dc 195 [] []]) 0 []):=by
 refine en L0 Tryz.f142 ?_
 repeat((first|(refine⟨fun h_=>?_,fun h_=>?_⟩)|(refine cU (fun h_=>?_) (fun h_=>?_))|(refine cS (fun h_=>?_) (fun h_=>?_)))<;>first|(exfalso;revert h_;decide;done)|(exact absurd rfl h_)|(have bm:=True.intro;clear bm;(conv=>whnf)))
 exact⟨[],[],_,_,_,t3,rfl,rfl,rfl⟩
theorem P1 (k:Int) (k1:k≠1) (k2:k≠2) (k3:k≠3):VC E0 142 0 [.s (.int .i64 k)] [] (RR (.agg [.dc 196 [] [],.dc 197 [] []]) 0 []):=by
 refine en L0 Tryz.f142 ?_;refine sp ?_ ?_<;>intro h
 ·exact absurd h k1
 refine wh ?_;refine sp ?_ ?_<;>intro h
 ·exact absurd h k2
 refine wh ?_;refine sp ?_ ?_<;>intro h
 ·exact absurd h k3
 refine wh ?_;exact⟨[],[],_,_,_,t3,rfl,rfl,rfl⟩
set_option maxHeartbeats 4000000
open Classical in
open Classical in
theorem Eb (l:List CF) (c:cA):VC E0 104 0 [.sl 5 (l.map aF) false,Ky c] [] (RR (.s (.int .i64 (jU l c))) 0 []):=by
 refine en L0 Tryz.f104 ?_;refine⟨[],[],_,_,_,_,KE l,t3,?_⟩;rintro r o' c' ⟨rfl,rfl,rfl⟩;by_cases ha:fU l;rotate_left
 ·rw[decide_eq_false ha];refine wh ?_;refine⟨[],[],_,_,_,tx ?_,rfl,rfl,rfl⟩;exact Lz.int (by unfold jU;rw[if_pos ha])
 rw[decide_eq_true ha];refine wh ?_;refine⟨[],[],_,_,_,_,l5 c.kind c.chain c.aq c.node,t3,cw ?_⟩;refine sp ?_ ?_<;>intro hk
 ·have hk:c.check≠0:=hk;refine wh ?_;refine⟨[],[],_,_,_,tx ?_,rfl,rfl,rfl⟩;exact Lz.int (by unfold jU;rw[if_neg (fun q=>q ha),if_pos hk];rfl)
 have hk:c.check=0:=Classical.not_not.1 hk;refine wh ?_;refine sp ?_ ?_<;>intro h0
 ·have h0:c.kind=0:=h0;refine wh ?_;refine⟨[],[],_,_,_,tx ?_,rfl,rfl,rfl⟩;exact Lz.int (by unfold jU;rw[if_neg (fun q=>q ha),if_neg (fun q=>q hk),if_pos h0];exact hk)
 have h0:¬c.kind=0:=h0;have mH:=oj hk h0;have hl4:=ha.1.2;refine wh ?_;refine sp ?_ ?_<;>intro h1
 ·have h1:c.chain≥(((l.map aF).length:Nat):Int):=h1;rw[List.length_map]at h1;have N7:l[c.chain.toNat]? =none:=List.getElem?_eq_none om;refine wh ?_;refine⟨[],[],_,_,_,tx ?_,rfl,rfl,rfl⟩;exact Lz.int (by unfold jU;rw[if_neg (fun q=>q ha),if_neg (fun q=>q hk),if_neg h0,N7])
 have h1:¬c.chain≥(((l.map aF).length:Nat):Int):=h1;rw[List.length_map]at h1;have aN:c.chain.toNat<l.length:=by omega
 have aal:l[c.chain.toNat]? =some l[c.chain.toNat]:=List.getElem?_eq_getElem aN;have hr:=ke ha (List.getElem_mem aN);have hC:jU l c=if l[c.chain.toNat].aq≠c.aq then 10 else Tc l l[c.chain.toNat] c:=by unfold jU;rw[if_neg (fun q=>q ha),if_neg (fun q=>q hk),if_neg h0,aal]
 rw[D7 hr]at hC;refine wh ?_;refine Z6 mH.1 aN ?_;refine wh ?_;refine sp ?_ ?_<;>intro h2
 ·have h2:l[c.chain.toNat].aq≠c.aq:=h2;rw[if_pos h2]at hC;refine wh ?_;refine⟨[],[],_,_,_,tx ?_,rfl,rfl,rfl⟩;exact Lz.int hC.symm
 have h2:¬l[c.chain.toNat].aq≠c.aq:=h2;rw[if_neg h2]at hC;refine wh ?_;by_cases k1:c.kind=1
 ·rw[k1]at hC;refine⟨[],[],_,_,_,_,PY,⟨by((repeat' first|exact LF|constructor);all_goals(exact Lz.int k1)),by((repeat' first|exact LF|constructor);all_goals(exact Lz.int k1)),by rfl⟩,?_⟩;rintro r o' c' ⟨rfl,rfl,rfl⟩;refine wh ?_;refine⟨[],[],_,_,_,_,D8 l l[c.chain.toNat] c.node hr,t3,cw ?_⟩;refine sp ?_ ?_<;>intro he
  ·have he:jA l l[c.chain.toNat] 1 c.node≠0:=he;rw[if_pos he]at hC;refine wh ?_;refine⟨[],[],_,_,_,tx ?_,rfl,rfl,rfl⟩;exact Lz.int hC.symm
  ·have he:¬jA l l[c.chain.toNat] 1 c.node≠0:=he;rw[if_neg he]at hC;refine wh ?_;refine sp ?_ ?_<;>intro hm
   ·have hm:l[c.chain.toNat].aq=18446744073709551615:=hm;refine wh ?_;refine⟨[],[],_,_,_,tx ?_,rfl,rfl,rfl⟩;exact Lz.int (by rw[hC];unfold uC;rw[if_pos hm])
   ·have hm:¬l[c.chain.toNat].aq=18446744073709551615:=hm;refine wh ?_;refine⟨[],[],_,_,_,tx ?_,rfl,rfl,rfl⟩;exact Lz.int (by rw[hC];unfold uC;rw[if_neg hm])
 by_cases k2:c.kind=2
 ·rw[k2]at hC;refine⟨[],[],_,_,_,_,PZ,⟨by((repeat' first|exact LF|constructor);all_goals(exact Lz.int k2)),by((repeat' first|exact LF|constructor);all_goals(exact Lz.int k2)),by rfl⟩,?_⟩;rintro r o' c' ⟨rfl,rfl,rfl⟩;refine wh ?_;refine⟨[],[],_,_,_,_,D9 l l[c.chain.toNat] c.node om (fun x hx=>by have:=(ke ha hx).2.2.1;omega),t3,cw ?_⟩;refine sp ?_ ?_<;>intro he
  ·have he:jA l l[c.chain.toNat] 2 c.node≠0:=he;rw[if_pos he]at hC;refine wh ?_;refine⟨[],[],_,_,_,tx ?_,rfl,rfl,rfl⟩;exact Lz.int hC.symm
  ·have he:¬jA l l[c.chain.toNat] 2 c.node≠0:=he;rw[if_neg he]at hC;refine wh ?_;refine sp ?_ ?_<;>intro hm
   ·have hm:l[c.chain.toNat].aq=18446744073709551615:=hm;refine wh ?_;refine⟨[],[],_,_,_,tx ?_,rfl,rfl,rfl⟩;exact Lz.int (by rw[hC];unfold uC;rw[if_pos hm])
   ·have hm:¬l[c.chain.toNat].aq=18446744073709551615:=hm;refine wh ?_;refine⟨[],[],_,_,_,tx ?_,rfl,rfl,rfl⟩;exact Lz.int (by rw[hC];unfold uC;rw[if_neg hm])
 by_cases k3:c.kind=3
 ·rw[k3]at hC;refine⟨[],[],_,_,_,_,P0,⟨by((repeat' first|exact LF|constructor);all_goals(exact Lz.int k3)),by((repeat' first|exact LF|constructor);all_goals(exact Lz.int k3)),by rfl⟩,?_⟩;rintro r o' c' ⟨rfl,rfl,rfl⟩;refine wh ?_;refine⟨[],[],_,_,_,_,Bg l l[c.chain.toNat] c.node,t3,cw ?_⟩;refine sp ?_ ?_<;>intro he
  ·have he:jA l l[c.chain.toNat] 3 c.node≠0:=he;rw[if_pos he]at hC;refine wh ?_;refine⟨[],[],_,_,_,tx ?_,rfl,rfl,rfl⟩;exact Lz.int hC.symm
  ·have he:¬jA l l[c.chain.toNat] 3 c.node≠0:=he;rw[if_neg he]at hC;refine wh ?_;refine sp ?_ ?_<;>intro hm
   ·have hm:l[c.chain.toNat].aq=18446744073709551615:=hm;refine wh ?_;refine⟨[],[],_,_,_,tx ?_,rfl,rfl,rfl⟩;exact Lz.int (by rw[hC];unfold uC;rw[if_pos hm])
   ·have hm:¬l[c.chain.toNat].aq=18446744073709551615:=hm;refine wh ?_;refine⟨[],[],_,_,_,tx ?_,rfl,rfl,rfl⟩;exact Lz.int (by rw[hC];unfold uC;rw[if_neg hm])
 refine⟨[],[],_,_,_,_,P1 c.kind k1 k2 k3,t3,cw ?_⟩;refine⟨[],[],_,_,_,_,Ea l l[c.chain.toNat] c.kind c.node hr k1 k2 k3,t3,cw ?_⟩;refine sp ?_ ?_<;>intro he
 ·have he:jA l l[c.chain.toNat] c.kind c.node≠0:=he;rw[if_pos he]at hC;refine wh ?_;refine⟨[],[],_,_,_,tx ?_,rfl,rfl,rfl⟩;exact Lz.int hC.symm
 ·have he:¬jA l l[c.chain.toNat] c.kind c.node≠0:=he;rw[if_neg he]at hC;refine wh ?_;refine sp ?_ ?_<;>intro hm
  ·have hm:l[c.chain.toNat].aq=18446744073709551615:=hm;refine wh ?_;refine⟨[],[],_,_,_,tx ?_,rfl,rfl,rfl⟩;exact Lz.int (by rw[hC];unfold uC;rw[if_pos hm])
  ·have hm:¬l[c.chain.toNat].aq=18446744073709551615:=hm;refine wh ?_;refine⟨[],[],_,_,_,tx ?_,rfl,rfl,rfl⟩;exact Lz.int (by rw[hC];unfold uC;rw[if_neg hm])
end Go.M
namespace Go.M
open Go Go.Proofs
set_option maxRecDepth 100000
set_option maxHeartbeats 4000000
def mi (x:CF) (k n:Int):CF:=
 if k=1 then(if x.join=n then⟨x.chain,x.aq+1,x.nodes,x.fresh,0⟩else⟨x.chain,x.aq+1,cg x.nodes n,x.fresh&&decide (iT x≠n),x.join⟩)
 else if k=2 then⟨x.chain,x.aq+1,x.nodes,x.fresh,n⟩
 else if k=3 then⟨x.chain,x.aq+1,x.nodes++[n],true,0⟩
 else⟨x.chain,x.aq+1,x.nodes,false,x.join⟩
noncomputable def mD (l:List CF) (c:cA):List CF×Bool:=
 if jU l c≠0 then(l,false)else if c.kind=0 then(l,true)else
 match l[c.chain.toNat]? with
 |none=>(l,true)
 |some x=>(l.set c.chain.toNat (mi x c.kind c.node),true)
theorem Ec {l:List CF} {c:cA} (h:jU l c=0) (hk:c.kind≠0):fU l∧c.check=0∧∃aN:c.chain.toNat<l.length,l[c.chain.toNat].aq<18446744073709551615∨18446744073709551615<l[c.chain.toNat].aq:=by
 unfold jU at h;by_cases ha:fU l
 ·rw[if_neg (fun q=>q ha)]at h;by_cases hc:c.check≠0
  ·rw[if_pos hc]at h;exact absurd h hc
  ·rw[if_neg hc,if_neg hk]at h;have Ra:c.check=0:=Classical.not_not.1 hc;refine⟨ha,Ra,?_⟩;cases hq:l[c.chain.toNat]? with
   |none=>rw[hq]at h;exact absurd (show(7:Int)=0 from h) (by decide)
   |some x=>
    rw[hq]at h;obtain⟨aN,hx⟩:=List.getElem?_eq_some_iff.1 hq;refine⟨aN,?_⟩;dsimp only at h;by_cases he:x.aq≠c.aq
    ·rw[if_pos he]at h;exact absurd h (by decide)
    ·rw[if_neg he,D7 (hx▸ke ha (List.getElem_mem aN))]at h;by_cases hz:jA l x c.kind c.node≠0
     ·rw[if_pos hz]at h;exact absurd h hz
     ·rw[if_neg hz]at h;unfold uC at h;by_cases hm:x.aq=18446744073709551615
      ·rw[if_pos hm]at h;exact absurd h (by decide)
      ·rw[hx];omega
 ·rw[if_pos ha]at h;exact absurd h (by decide)
def Tf (K:List ak):Nat→Nat→Nat
 |0,n=>n
 |m+1,n=>match K[n]? with
  |some v=>if v.slot=(n:Int)then Tf K m (n+1)else n
  |none=>n
def aK (K:List ak):Nat:=Tf K K.length 0
def oq (K:List ak):Int:=match K.getLast? with
 |none=>0
 |some v=>v.slot+1
noncomputable def bf (K:List ak) (l:List CF):Nat→List CF×List CF
 |0=>([],l)
 |n+1=>match K[n]? with
  |none=>bf K l n
  |some v=>(if(mD (bf K l n).2 (ao v)).2=true∧v.kind≠0 then(bf K l n).1++((mD (bf K l n).2 (ao v)).1[v.chain.toNat]?).toList else(bf K l n).1,(mD (bf K l n).2 (ao v)).1)
structure HE (l:List CF):Prop where
 len:l.length≤6
 ep:∀c∈l,0≤c.aq∧c.aq≤18446744073709551615
 n6:∀c∈l,c.nodes.length≤6
theorem KF (l:List CF) (c:cA):(mD l c).1.length=l.length:=by
 unfold mD;split
 ·rfl
 ·split
  ·rfl
  ·split
   ·rfl
   ·simp
theorem P2 {l:List CF} {c:cA} (h:(mD l c).2=true) (_:c.kind≠0):jU l c=0:=by
 unfold mD at h;by_cases hc:jU l c≠0
 ·rw[if_pos hc]at h;exact absurd (show false=true from h) Bool.false_ne_true
 ·exact Classical.not_not.1 hc
theorem P3 {x:CF} {k n:Int} (h5:x.nodes.length≤5) (he:0≤x.aq∧x.aq<18446744073709551615):(0≤(mi x k n).aq∧(mi x k n).aq≤18446744073709551615)∧(mi x k n).nodes.length≤6:=by
 have hw:=D5 x.nodes n;unfold mi
 repeat' split
 all_goals(dsimp only;first|exact⟨⟨om,om⟩,om⟩|exact⟨⟨om,om⟩,by simp;omega⟩)
theorem HE.do {l:List CF} (h:HE l) (c:cA):HE (mD l c).1:=by
 by_cases hc:jU l c=0
 ·by_cases hk:c.kind=0
  ·have:mD l c=(l,true):=by unfold mD;rw[if_neg (fun q=>q hc),if_pos hk]
   rw[this];exact h
  ·obtain⟨ha,oz,aN,hm⟩:=Ec hc hk;have hC:mD l c=(l.set c.chain.toNat (mi l[c.chain.toNat] c.kind c.node),true):=by unfold mD;rw[if_neg (fun q=>q hc),if_neg hk,List.getElem?_eq_getElem aN]
   have h5:=(ke ha (List.getElem_mem aN)).2.2.1;have WJ:=h.ep _ (List.getElem_mem aN);have hmo:=P3 (x:=l[c.chain.toNat]) (k:=c.kind) (n:=c.node) h5.2 ⟨WJ.1,om⟩;rw[hC];refine⟨by simpa using h.len,fun x hx=>?_,fun x hx=>?_⟩
   ·rcases List.mem_or_eq_of_mem_set hx with q|rfl
    ·exact h.ep x q
    ·exact hmo.1
   ·rcases List.mem_or_eq_of_mem_set hx with q|rfl
    ·exact h.n6 x q
    ·exact hmo.2
 ·have:mD l c=(l,false):=by unfold mD;rw[if_pos hc]
  rw[this];exact h
theorem HE.aV {l:List CF} (h:HE l) (K:List ak):∀n,HE (bf K l n).2
 |0=>h
 |n+1=>by
  have ih:=h.aV K n;unfold bf;cases K[n]? with
  |none=>exact ih
  |some v=>exact ih.do _
theorem rB (K:List ak) (l:List CF):∀n,(bf K l n).1.length≤n
 |0=>by simp[bf]
 |n+1=>by
  have ih:=rB K l n;unfold bf;cases K[n]? with
  |none=>dsimp only;omega
  |some v=>
   dsimp only
   split
   ·rw[List.length_append];have:((mD (bf K l n).2 (ao v)).1[v.chain.toNat]?).toList.length≤1:=by
     cases(mD (bf K l n).2 (ao v)).1[v.chain.toNat]? <;>simp
    omega
   ·omega
def nf:Nat→List ak→Nat
 |n,[]=>n
 |n,x::l=>if x.slot=(n:Int)then nf (n+1) l else n
theorem KG:∀(l:List ak) (n:Nat),n≤nf n l
 |[],n=>Nat.le_refl n
 |x::l,n=>by
  unfold nf;split
  ·exact Nat.le_trans (Nat.le_succ n) (KG l (n+1))
  ·exact Nat.le_refl n
theorem UP:∀(l:List ak) (n:Nat),nf n l≤n+l.length
 |[],n=>Nat.le_refl n
 |x::l,n=>by
  have:=UP l (n+1);unfold nf;rw[List.length_cons];split<;>omega
theorem KH (K:List ak):∀(m n:Nat),m+n=K.length→Tf K m n=nf n (K.drop n)
 |0,n,h=>by
  rw[List.drop_eq_nil_of_le om];rfl
 |m+1,n,h=>by
  have aN:n<K.length:=by omega
  have ih:=KH K m (n+1) om;rw[List.drop_eq_getElem_cons aN];unfold Tf nf;rw[List.getElem?_eq_getElem aN];dsimp only
  split
  ·exact ih
  ·rfl
theorem mj (K:List ak):aK K=nf 0 K:=KH K K.length 0 om
theorem zV (K:List ak):aK K≤K.length:=by rw[mj];have:=UP K 0;omega
theorem Jj (v:ak):∀(l:List ak) (n:Nat),SS l→(∀x∈l,(n:Int)≤x.slot)→(n:Int)≤v.slot→(∀x∈l,x.slot=v.slot→ao x=ao v)→
 nf n l≤nf n (put l v)∧∀i,n+i<nf n l→(l[i]?).map ao=((put l v)[i]?).map ao
 |[],n,_,_,_,_=>⟨KG _ n,fun i h=>by simp only[nf]at h;omega⟩
 |x::l,n,hS,xI,hv,hc=>by
  obtain⟨WL,xy⟩:=List.pairwise_cons.1 hS;by_cases hx:x.slot=(n:Int)
  ·by_cases h1:x.slot<v.slot
   ·have ih:=Jj v l (n+1) xy (fun y hy=>by have:=WL y hy;omega) om (fun y hy=>hc y (List.mem_cons_of_mem _ hy));have e1:nf n (x::l)=nf (n+1) l:=by rw[nf,if_pos hx]
    have e2:put (x::l) v=x::put l v:=by rw[put,if_pos h1]
    have e3:nf n (x::put l v)=nf (n+1) (put l v):=by rw[nf,if_pos hx]
    rw[e1,e2,e3];refine⟨ih.1,fun i hi=>?_⟩;cases i with
    |zero=>rfl
    |succ i=>simpa using ih.2 i om
   ·have h2:x.slot=v.slot:=by omega
    have e2:put (x::l) v=v::l:=by rw[put,if_neg h1,if_pos h2]
    have e1:nf n (x::l)=nf (n+1) l:=by rw[nf,if_pos hx]
    have e3:nf n (v::l)=nf (n+1) l:=by rw[nf,if_pos (h2▸hx)]
    rw[e1,e2,e3];refine⟨Nat.le_refl _,fun i hi=>?_⟩;cases i with
    |zero=>simp[hc x List.mem_cons_self h2]
    |succ i=>rfl
  ·have e1:nf n (x::l)=n:=by rw[nf,if_neg hx]
   rw[e1];exact⟨KG _ n,fun i hi=>by omega⟩
theorem sX {K K':List ak} {l:List CF}:∀{n:Nat},(∀i<n,(K[i]?).map ao=(K'[i]?).map ao)→bf K l n=bf K' l n
 |0,_=>rfl
 |n+1,h=>by
  have ih:=sX (l:=l) (n:=n) fun i hi=>h i om;have hn:=h n (Nat.lt_succ_self n);unfold bf;rw[ih];cases h1:K[n]? with
  |none=>
   cases h2:K'[n]? with
   |none=>rfl
   |some w=>rw[h1,h2]at hn;cases hn
  |some v=>
   cases h2:K'[n]? with
   |none=>rw[h1,h2]at hn;cases hn
   |some w=>
    rw[h1,h2]at hn;have e:ao v=ao w:=by simpa using hn
    have ek:v.kind=w.kind:=congrArg cA.kind e;have ec:v.chain=w.chain:=congrArg cA.chain e;dsimp only
    rw[e,ek,ec]
theorem sY (K:List ak) (l:List CF) (n:Nat):∀m,(bf K l n).1<+:(bf K l (n+m)).1
 |0=>List.prefix_rfl
 |m+1=>by
  have ih:=sY K l n m;show _<+:(bf K l ((n+m)+1)).1;rw[bf];cases K[n+m]? with
  |none=>exact ih
  |some v=>
   dsimp only
   split
   ·exact ih.trans (List.prefix_append _ _)
   ·exact ih
structure AN (K:List ak):Prop where
 ss:SS K
 l6:∀v∈K,0≤v.slot∧v.slot<512
 len:K.length<900
 ep:∀v∈K,0≤v.aq
noncomputable def iU (K:List ak) (l:List CF):List CF:=(bf K l (aK K)).1
def other (K:List ak) (slot:Int) (c:cA):Bool:=match pz K slot with
 |none=>false
 |some v=> !(kW (ao v) c)
noncomputable def br (K:List ak) (l:List CF) (slot:Int) (c:cA):List ak×List CF×Int:=
 if slot<0∨slot>511 then(K,[],1)else if c.check≠0 then(K,[],c.check)else if other K slot c=true then(K,[],8)
 else(put K (.of slot 0 c),(iU (put K (.of slot 0 c)) l).drop (iU K l).length,0)
theorem Mo {K:List ak} (h:AN K) {l:List CF} {slot:Int} {c:cA} (hs:0≤slot) (ho:other K slot c=false):iU K l<+:iU (put K (.of slot 0 c)) l:=by
 have hp:=Jj (.of slot 0 c) K 0 h.ss (fun v hv=>(h.l6 v hv).1) hs (fun v hv e=>by
  have EI:pz K slot=some v:=(fi h.ss).2 ⟨hv,e⟩;unfold other at ho;rw[EI]at ho;have:kW (ao v) c=true:=by simpa using ho
  exact vY.1 this)
 rw[←mj,←mj]at hp;unfold iU;rw[sX (K':=put K (.of slot 0 c)) (fun i hi=>hp.2 i om)];obtain⟨m,hm⟩:=Nat.exists_eq_add_of_le hp.1;rw[hm];exact sY _ _ _ _
def qD (base:Nat) (k:Nat):List Int:=(List.range k).map fun(q:Nat)=>((base+q+1:Nat):Int)
theorem GP (b k:Nat):qD b (k+1)=qD b k++[((b+k+1:Nat):Int)]:=by simp[qD,List.range_succ]
def UQ (fA:Nat) (i:Nat):CF:=⟨i,1,qD (i*fA) fA,false,0⟩
def iI (fA:Nat) (i:Nat):List CF:=(List.range i).map (UQ fA)
theorem GQ (fA i:Nat):iI fA (i+1)=iI fA i++[UQ fA i]:=by simp[iI,List.range_succ]
def WM (dO fA:Int):Prop:=(1≤dO∧dO≤4)∧1≤fA∧fA≤5
theorem GR (dO fA:Nat) (h:WM dO fA):VC E0 19 0 [.s (.int .i64 dO),.s (.int .i64 fA)] [] (RR (.dk [.sl 5 ((iI fA dO).map aF) false,.s (.int .i64 0)]) 0 []):=by
 obtain⟨⟨a1,a2⟩,a3,a4⟩:=h;have hmul:∀i:Nat,i≤dO→i*fA≤20:=fun i hi=>by
  have h1:i≤4:=by omega
  have h2:fA≤5:=by omega
  exact Nat.mul_le_mul h1 h2
 refine en L0 Tryz.f19 ?_;refine sp ?_ ?_<;>intro q1
 ·have q1:(dO:Int)<1:=q1;omega
 refine wh ?_;refine sp ?_ ?_<;>intro q2
 ·have q2:(dO:Int)>4:=q2;omega
 refine wh ?_;refine sp ?_ ?_<;>intro q3
 ·have q3:(fA:Int)<1:=q3;omega
 refine wh ?_;refine sp ?_ ?_<;>intro q4
 ·have q4:(fA:Int)>5:=q4;omega
 refine wh ?_;refine⟨fun kk f o c=>∃i:Nat,i≤dO∧kk=dO - i∧c=1∧f=[(0,.s (.int .i64 dO)),(1,.s (.int .i64 fA)),(6,.tk 0),(7,.s (.int .i64 (i*fA:Nat))),(8,.s (.int .i64 i))]∧o=[(0,.arr 5 true ((iI fA i).map aF))],⟨dO,?_⟩,?_⟩
 ·refine⟨[],[none],?_⟩
  iterate 3 constructor
  refine⟨⟨?_,?_,?_⟩,⟨0,Nat.zero_le _,rfl,rfl,rfl,rfl⟩⟩
  all_goals(repeat' first|exact LF|constructor)
  all_goals exact Lz.int (by simp)
 ·rintro kk f1 o1 c1 ⟨i,hi,rfl,rfl,rfl,rfl⟩;refine wh ?_;refine sp ?_ ?_<;>intro hl
  ·have hl:i<dO:=by have:(i:Int)<(dO:Int):=hl
                    omega
   have hm:=hmul (i+1) hl;have AJ:(i+1)*fA=i*fA+fA:=Nat.succ_mul i fA;refine wh ?_
   refine⟨fun kk f o c=>∃k:Nat,k≤fA∧kk=fA - k∧c=3∧f=[(0,.s (.int .i64 dO)),(1,.s (.int .i64 fA)),(6,.tk 0),(7,.s (.int .i64 (i*fA+k:Nat))),(8,.s (.int .i64 i)),(9,.ptr 1 0),(10,.s (.int .i64 k))]∧
    o=[(0,.arr 5 true ((iI fA i).map aF)),(1,.cells [.s (.int .i64 i),.s (.int .u64 1),.tk 2,.s (.bool false),.s (.int .i64 0)]),(2,.arr 1 true ((qD (i*fA) k).map aR))],⟨fA,?_⟩,?_⟩
   ·exact⟨[],[some 0,some 1,none],_,_,_,t3,⟨0,Nat.zero_le _,rfl,rfl,rfl,rfl⟩⟩
   ·rintro kk f2 o2 c2 ⟨k,hk,rfl,rfl,rfl,rfl⟩;refine wh ?_;refine sp ?_ ?_<;>intro Bc
    ·have Bc:k<fA:=by have:(k:Int)<(fA:Int):=Bc
                      omega
     refine wh ?_;refine⟨by simp[qD];omega,?_⟩;refine wh ?_;refine⟨fA - (k+1),?_,om⟩;refine⟨[],[some 0,some 1,some 4],_,_,_,tx ?_,⟨k+1,Bc,rfl,rfl,rfl,rfl⟩⟩;exact Lz.of (by rw[GP,List.map_append,IntWalk.i64_in _ om];rfl)
    ·have Bc:k=fA:=by have:¬(k:Int)<(fA:Int):=Bc
                      omega
     subst Bc;refine wh ?_;refine⟨by simp[iI];omega,?_⟩;refine wh ?_;refine⟨dO - (i+1),?_,om⟩;refine⟨[],[some 4],?_⟩
     iterate 3 constructor
     refine⟨⟨?_,?_,?_⟩,⟨i+1,hl,rfl,rfl,rfl,rfl⟩⟩
     all_goals(repeat' first|exact LF|constructor)
     ·exact Lz.int (by rw[AJ])
     ·exact Lz.of (by rw[GQ,List.map_append];rfl)
  ·have hl:i=dO:=by have:¬(i:Int)<(dO:Int):=hl
                    omega
   subst hl;have hm:=hmul i (Nat.le_refl _);refine wh ?_;refine sp ?_ ?_<;>intro q5
   ·have q5:((i*fA:Nat):Int)>24:=q5;omega
   refine wh ?_;exact⟨[0],[],_,_,_,t3,rfl,rfl,rfl⟩
theorem P4 (c:CF) (hn:c.nodes.length<1000000):VC E0 36 0 [.agg (aF c)] [] (RR (.agg (aF c)) 0 []):=by
 refine en L0 Tryz.f36 ?_;refine⟨[],[],_,_,_,_,iS c.nodes hn,t3,cw ?_⟩;exact⟨[2],[],_,_,_,t3,rfl,rfl,rfl⟩
@[reducible] def UR:List TV:=[.s (.int .i64 0),.s (.int .u64 0),.sl 0 [] true,.s (.bool false),.s (.int .i64 0)]
def qE (l:List CF) (j:Nat):List (List TV):=(l.take j).map aF++List.replicate (l.length - j) UR
theorem Mp (l:List CF) (j:Nat) (h:j≤l.length):(qE l j).length=l.length:=by unfold qE;simp;omega
theorem Mq (l:List CF) (j:Nat) (h:j<l.length):(qE l j).set j (aF l[j])=qE l (j+1):=by
 unfold qE;have e:l.length - j=(l.length - (j+1))+1:=by omega
 have hlen:((l.take j).map aF).length=j:=by rw[List.length_map,List.length_take];omega
 rw[e,List.replicate_succ,List.set_append,if_neg om,hlen,Nat.sub_self,List.take_succ_eq_append_getElem h,List.map_append,List.append_assoc];rfl
theorem Mr (l:List CF) (j:Nat) (h:j<l.length):(qE l j)[j]? =some UR:=by
 unfold qE;have e:l.length - j=(l.length - (j+1))+1:=by omega
 have hlen:((l.take j).map aF).length=j:=by rw[List.length_map,List.length_take];omega
 rw[e,List.replicate_succ,List.getElem?_append_right om,hlen,Nat.sub_self];rfl
theorem uD (l:List CF) (hl:l.length<10000) (hn:∀c∈l,c.nodes.length<1000000):VC E0 20 0 [.sl 5 (l.map aF) false] [] (RR (.tk 0) 1 [(0,.arr 5 true (l.map aF))]):=by
 refine en L0 Tryz.f20 ?_;refine⟨⟨om,om,by simp;omega⟩,?_⟩;refine wh ?_;refine⟨fun k f o c=>∃j:Nat,j≤l.length∧k=l.length - j∧c=1∧f=[(3,.tk 0),(9,.sl 5 (l.map aF) false),(10,.s (.int .i64 l.length)),(11,.s (.int .i64 j))]∧o=[(0,.arr 5 true (qE l j))],⟨l.length,?_⟩,?_⟩
 ·refine⟨[],[some 0],?_⟩
  iterate 3 constructor
  refine⟨⟨?_,?_,?_⟩,⟨0,Nat.zero_le _,rfl,rfl,rfl,rfl⟩⟩
  all_goals(repeat' first|exact LF|constructor)
  ·exact Lz.int (by rw[List.length_map])
  ·exact Lz.of (by simp[qE];exact .inr rfl)
 ·rintro k f1 o1 c1 ⟨j,hj,rfl,rfl,rfl,rfl⟩;refine wh ?_;refine sp ?_ ?_<;>intro h
  ·have h:j<l.length:=by have:(j:Int)<(l.length:Nat):=h
                         omega
   refine wh ?_;refine eT h ?_;refine wh ?_;refine⟨[],[],_,_,_,_,P4 l[j] (hn _ (List.getElem_mem h)),t3,cw ?_⟩;refine⟨⟨om,by rw[Mp l j hj];omega⟩,?_⟩;refine wh ?_;refine⟨UR,by rw[Int.toNat_natCast];exact Mr l j h,?_⟩;refine wh ?_;refine⟨l.length - (j+1),?_,om⟩;refine⟨[],[some 0],_,_,_,tx ?_,⟨j+1,h,rfl,rfl,rfl,rfl⟩⟩;exact Lz.of (by rw[Int.toNat_natCast];exact Mq l j h)
  ·have Gv:j=l.length:=by have:¬(j:Int)<(l.length:Nat):=h
                          omega
   subst Gv;have hc:qE l l.length=l.map aF:=by unfold qE;simp
   rw[hc];refine wh ?_;exact⟨[],[some 0],_,_,_,t3,rfl,rfl,rfl⟩
structure pM where
 known:List (Int×cA)
 next:Int
 top:Int
 done:Int
 bM:List CF
def qF (c:cA):TV:=.agg [.s (.int .i64 c.kind),.s (.int .i64 c.chain),.s (.int .u64 c.aq),.s (.int .i64 c.node)]
@[reducible] def zW (x:pM) (i:Nat):TO:=.cells [.mp i,.s (.int .i64 x.next),.s (.int .i64 x.top),.s (.int .i64 x.done),.sl 5 (x.bM.map aF) false]
@[reducible] def kM (x:pM):TO:=.map (eE .i64) (x.known.map (kL .i64 qF))
@[reducible] def EL (x:pM):Ob:=[(0,zW x 1),(1,kM x)]
@[reducible] def aam (l:List CF):pM:=⟨[],0,0,0,l⟩
open Classical in
open Classical in
theorem Tg (l:List CF) (h:fU l):VC E0 17 0 [.sl 5 (l.map aF) false] [] (RR (.dk [.ptr 0 0,.s (.int .i64 0)]) 2 (EL (aam l))):=by
 have h4:=h.1.2;refine en L0 Tryz.f17 ?_;refine⟨[],[],_,_,_,_,KE l,t3,?_⟩;rintro r o' c' ⟨rfl,rfl,rfl⟩;rw[decide_eq_true h];refine wh ?_;refine⟨[],[],_,_,_,_,uD l om (fun c hc=>by have:=(ke h hc).2.2.1;omega),t3,cw ?_⟩;exact⟨[1],[some 2,some 0],_,_,_,t3,rfl,rfl,rfl⟩
theorem P5 (x:pM):VC E0 54 2 [.ptr 0 0] (EL x) (RR (.s (.int .i64 x.next)) 2 (EL x)):=by
 refine en L0 Tryz.f54 ?_;exact⟨[],[some 0,some 1],_,_,_,t3,rfl,rfl,rfl⟩
theorem Th (x:pM):VC E0 33 2 [.ptr 0 0] (EL x) (RR (.s (.int .i64 x.top)) 2 (EL x)):=by
 refine en L0 Tryz.f33 ?_;exact⟨[],[some 0,some 1],_,_,_,t3,rfl,rfl,rfl⟩
theorem Ti (x:pM) (c:cA):VC E0 50 2 [.ptr 0 0,Ky c] (EL x) (RR (.s (.int .i64 (jU x.bM c))) 2 (EL x)):=by
 refine en L0 Tryz.f50 ?_;refine⟨[],[],_,_,_,_,Eb x.bM c,t3,cw ?_⟩;exact⟨[],[some 0,some 1],_,_,_,t3,rfl,rfl,rfl⟩
theorem Ms (x:pM) (hl:x.bM.length<10000) (hn:∀c∈x.bM,c.nodes.length<1000000):VC E0 8 2 [.ptr 0 0] (EL x) (RR (.sl 5 (x.bM.map aF) false) 2 (EL x)):=by
 refine en L0 Tryz.f8 ?_;refine⟨[],[],_,_,_,_,uD x.bM hl hn,t3,cw ?_⟩;exact⟨[2],[some 0,some 1],_,_,_,t3,rfl,rfl,rfl⟩
theorem WN (x:pM) (slot:Int):VC E0 34 2 [.ptr 0 0,.s (.int .i64 slot)] (EL x) (RR (.dk [qF ((bL x.known slot).getD aH),.s (.bool (bL x.known slot).isSome)]) 2 (EL x)):=by
 refine en L0 Tryz.f34 ?_;have hl:=m3 .i64 .i64 qF slot x.known;cases h:bL x.known slot with
 |none=>
  rw[h]at hl;refine⟨_,hl,?_⟩;refine wh ?_;exact⟨[],[some 0,some 1],_,_,_,t3,rfl,rfl,rfl⟩
 |some c=>
  rw[h]at hl;refine⟨_,hl,?_⟩;refine wh ?_;exact⟨[],[some 0,some 1],_,_,_,t3,rfl,rfl,rfl⟩
end Go.M
namespace Go.M
open Go Go.Proofs
set_option maxRecDepth 100000
set_option maxHeartbeats 4000000
def aY:CF:=⟨0,0,[],false,0⟩
end Go.M
