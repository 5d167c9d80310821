/-
  Part 18 of the library that the proof leans on.
-/
import Derived.Test.YthaboieeoopmjaaGreatDoorL12
import Derived.Test.YthaboieeoopmjaaGreatDoorL17
namespace Go.M
open Go Go.Proofs
set_option maxRecDepth 100000
set_option maxHeartbeats 2000000
@[reducible] def G6 (n:Int):Ob:=[(0,.cells [.s (.int .i64 n)])]
def ji (n m:Int):Bool:=decide (m≠n)
theorem W9 (n m:Int):VC E0 216 1 [.s (.int .i64 m),.ptr 0 0] (G6 n) (RR (.s (.bool (ji n m))) 1 (G6 n)):=by
 refine en L0 Tryz.f216 ?_;refine sp ?_ ?_<;>intro h
 ·have h:m≠n:=h;refine wh ?_;refine⟨[],[some 0],_,_,_,tx ?_,rfl,rfl,rfl⟩;exact Lz.of (an (Eq.symm (decide_eq_true h)))
 ·have h:¬m≠n:=h;refine wh ?_;refine⟨[],[some 0],_,_,_,tx ?_,rfl,rfl,rfl⟩;exact Lz.of (an (Eq.symm (decide_eq_false h)))
theorem aaT (n:Int) (vs:List Int) (hl:vs.length<1000000):VC E0 239 1 [.sl 1 (vs.map aW) false,.cW 216 [] [.ptr 0 0]] (G6 n)
 (fun r o c'=>∃i:Int,r= .s (.int .i64 i)∧c'=1∧o=G6 n∧((i= -1∧∀v∈vs,ji n v=false)∨0≤i∧∃v∈vs,ji n v=true)):=by
 refine en L0 Tryz.f239 ?_;refine⟨fun k f o c'=>∃j:Nat,j≤vs.length∧k=vs.length - j∧(∀v∈vs.take j,ji n v=false)∧c'=1∧f=[(0,.sl 1 (vs.map aW) false),(1,.cW 216 [] [.ptr 0 0]),(7,.s (.int .i64 vs.length)),(8,.s (.int .i64 j))]∧o=G6 n,⟨vs.length,?_⟩,?_⟩
 ·refine⟨[],[some 0],?_⟩
  iterate 3 constructor
  refine⟨⟨?_,?_,?_⟩,⟨0,Nat.zero_le _,rfl,by simp,rfl,rfl,rfl⟩⟩
  all_goals(repeat' first|exact LF|constructor)
  all_goals first|exact Lz.of (by simp[goInt])|exact Lz.rfl
 ·rintro k f1 o1 c1 ⟨j,hj,rfl,hb,rfl,rfl,rfl⟩;refine wh ?_;refine sp ?_ ?_<;>intro h
  ·have h:j<vs.length:=by simpa using h
   refine wh ?_;refine jg h ?_;refine wh ?_;refine⟨[],[some 0],_,_,_,_,W9 n vs[j],t3,?_⟩;rintro r o' c' ⟨rfl,rfl,rfl⟩;have bj:=True.intro;clear bj;cases hv:ji n vs[j]
   ·refine wh ?_;refine⟨vs.length - (j+1),?_,om⟩;exact⟨[],[some 0],_,_,_,t3,⟨j+1,h,rfl,by intro v oH;rw[List.take_succ_eq_append_getElem h]at oH;rcases List.mem_append.1 oH with h1|h1;exact hb v h1;simp at h1;subst h1;exact hv,rfl,rfl,rfl⟩⟩
   ·refine wh ?_;exact⟨[],[some 0],_,_,_,t3,(j:Int),rfl,rfl,rfl,.inr ⟨om,_,List.getElem_mem h,hv⟩⟩
  ·have h':j=vs.length:=by have:¬j<vs.length:=by simpa using h
                           omega
   subst h';rw[List.take_length]at hb;refine wh ?_;exact⟨[],[some 0],_,_,_,t3,-1,rfl,rfl,rfl,.inl ⟨rfl,hb⟩⟩
theorem Dv (n:Int) (vs:List Int) (hl:vs.length<1000000):VC E0 214 1 [.sl 1 (vs.map aW) false,.cW 216 [] [.ptr 0 0]] (G6 n) (RR (.s (.bool (vs.any (ji n)))) 1 (G6 n)):=by
 refine en L0 Tryz.f214 ?_;refine⟨[],[some 0],_,_,_,_,aaT n vs hl,t3,?_⟩;rintro r o' c' ⟨i,rfl,rfl,rfl,hi⟩;refine wh ?_;refine sp ?_ ?_<;>intro h
 ·have h:i≥0:=h;refine wh ?_;refine⟨[],[some 0],?_⟩
  iterate 3 constructor
  refine⟨⟨?_,?_,?_⟩,rfl,rfl,rfl⟩
  all_goals(repeat' first|exact LF|constructor)
  refine Lz.of (an (Eq.symm ?_));rcases hi with⟨e,_⟩|⟨_,v,hv,hs⟩
  ·omega
  ·exact List.any_eq_true.2 ⟨v,hv,hs⟩
 ·have h:¬i≥0:=h;refine wh ?_;refine⟨[],[some 0],?_⟩
  iterate 3 constructor
  refine⟨⟨?_,?_,?_⟩,rfl,rfl,rfl⟩
  all_goals(repeat' first|exact LF|constructor)
  refine Lz.of (an (Eq.symm ?_));rcases hi with⟨_,gJ⟩|⟨e,_⟩
  ·exact List.any_eq_false.2 fun v hv=>by rw[gJ v hv];simp
  ·omega
def pM (n:Int) (c:CF):Bool:=decide (n∈aG c)
theorem PW (n:Int) (c:CF) (h:c.nodes.length<10000):VC E0 241 1 [.agg (aJ c),.ptr 0 0] (G6 n) (RR (.s (.bool (pM n c))) 1 (G6 n)):=by
 have KY:=fi c;refine en L0 Tryz.f241 ?_;refine⟨[],[],_,_,_,_,lu c om,t3,cw ?_⟩;refine⟨[2],[],_,_,_,_,iH (aG c) n om,t3,cw ?_⟩;exact⟨[],[some 0],_,_,_,t3,rfl,rfl,rfl⟩
theorem aaU (n:Int) (vs:List CF) (hl:vs.length<1000000) (hn:∀c∈vs,c.nodes.length<10000):VC E0 248 1 [.sl 5 (vs.map aJ) false,.cW 241 [] [.ptr 0 0]] (G6 n)
 (fun r o c'=>∃i:Int,r= .s (.int .i64 i)∧c'=1∧o=G6 n∧((i= -1∧∀v∈vs,pM n v=false)∨0≤i∧∃v∈vs,pM n v=true)):=by
 have Oh:∀{j:Nat} (h:j<vs.length),vs[j].nodes.length<10000:=fun h=>hn _ (List.getElem_mem h);refine en L0 Tryz.f248 ?_;refine⟨fun k f o c'=>∃j:Nat,j≤vs.length∧k=vs.length - j∧(∀v∈vs.take j,pM n v=false)∧c'=1∧f=[(0,.sl 5 (vs.map aJ) false),(1,.cW 241 [] [.ptr 0 0]),(7,.s (.int .i64 vs.length)),(8,.s (.int .i64 j))]∧o=G6 n,⟨vs.length,?_⟩,?_⟩
 ·refine⟨[],[some 0],?_⟩
  iterate 3 constructor
  refine⟨⟨?_,?_,?_⟩,⟨0,Nat.zero_le _,rfl,by simp,rfl,rfl,rfl⟩⟩
  all_goals(repeat' first|exact LF|constructor)
  all_goals first|exact Lz.of (by simp[goInt])|exact Lz.rfl
 ·rintro k f1 o1 c1 ⟨j,hj,rfl,hb,rfl,rfl,rfl⟩;refine wh ?_;refine sp ?_ ?_<;>intro h
  ·have h:j<vs.length:=by simpa using h
   refine wh ?_;refine jg h ?_;refine wh ?_;refine⟨[],[some 0],_,_,_,_,PW n vs[j] (Oh h),t3,?_⟩;rintro r o' c' ⟨rfl,rfl,rfl⟩;have bj:=True.intro;clear bj;cases hv:pM n vs[j]
   ·refine wh ?_;refine⟨vs.length - (j+1),?_,om⟩;exact⟨[],[some 0],_,_,_,t3,⟨j+1,h,rfl,by intro v oH;rw[List.take_succ_eq_append_getElem h]at oH;rcases List.mem_append.1 oH with h1|h1;exact hb v h1;simp at h1;subst h1;exact hv,rfl,rfl,rfl⟩⟩
   ·refine wh ?_;exact⟨[],[some 0],_,_,_,t3,(j:Int),rfl,rfl,rfl,.inr ⟨om,_,List.getElem_mem h,hv⟩⟩
  ·have h':j=vs.length:=by have:¬j<vs.length:=by simpa using h
                           omega
   subst h';rw[List.take_length]at hb;refine wh ?_;exact⟨[],[some 0],_,_,_,t3,-1,rfl,rfl,rfl,.inl ⟨rfl,hb⟩⟩
theorem IS (n:Int) (vs:List CF) (hl:vs.length<1000000) (hn:∀c∈vs,c.nodes.length<10000):VC E0 240 1 [.sl 5 (vs.map aJ) false,.cW 241 [] [.ptr 0 0]] (G6 n) (RR (.s (.bool (vs.any (pM n)))) 1 (G6 n)):=by
 refine en L0 Tryz.f240 ?_;refine⟨[],[some 0],_,_,_,_,aaU n vs hl hn,t3,?_⟩;rintro r o' c' ⟨i,rfl,rfl,rfl,hi⟩;refine wh ?_;refine sp ?_ ?_<;>intro h
 ·have h:i≥0:=h;refine wh ?_;refine⟨[],[some 0],?_⟩
  iterate 3 constructor
  refine⟨⟨?_,?_,?_⟩,rfl,rfl,rfl⟩
  all_goals(repeat' first|exact LF|constructor)
  refine Lz.of (an (Eq.symm ?_));rcases hi with⟨e,_⟩|⟨_,v,hv,hs⟩
  ·omega
  ·exact List.any_eq_true.2 ⟨v,hv,hs⟩
 ·have h:¬i≥0:=h;refine wh ?_;refine⟨[],[some 0],?_⟩
  iterate 3 constructor
  refine⟨⟨?_,?_,?_⟩,rfl,rfl,rfl⟩
  all_goals(repeat' first|exact LF|constructor)
  refine Lz.of (an (Eq.symm ?_));rcases hi with⟨_,gJ⟩|⟨e,_⟩
  ·exact List.any_eq_false.2 fun v hv=>by rw[gJ v hv];simp
  ·omega
theorem Mg (l:List CF) (n:Int):l.any (pM n)=decide (n∈gz l):=by
 rw[Bool.eq_iff_iff,List.any_eq_true,decide_eq_true_iff];unfold gz pM;rw[List.mem_flatMap];exact⟨fun⟨x,h,q⟩=>⟨x,h,of_decide_eq_true q⟩,fun⟨x,h,q⟩=>⟨x,h,decide_eq_true q⟩⟩
theorem TD (l:List CF) (n:Int) (hl:l.length<10000) (hn:∀c∈l,c.nodes.length<10000):VC E0 220 0 [.sl 5 (l.map aJ) false,.s (.int .i64 n)] [] (RR (.s (.bool (decide (n∈gz l)))) 0 []):=by
 refine en L0 Tryz.f220 ?_;refine⟨[],[some 0],_,_,_,_,IS n l om hn,t3,?_⟩;rintro r o' c' ⟨rfl,rfl,rfl⟩;rw[Mg];refine wh ?_;exact⟨[],[],_,_,_,t3,rfl,rfl,rfl⟩
def iQ (l:List CF) (x:CF) (k n:Int):Int:=
 if k=1 then(if n∉aG x then 7 else if(eB x).any (ji n)=false then 12 else 0)
 else if k=2 then(if n∈gz l then 8 else if x.join≠0∨x.fresh=true then 12 else if x.nodes.length≥5 then 9 else 0)
 else if k=3 then(if x.join≠n then 7 else if x.nodes.length≥5 then 9 else 0)
 else(if x.fresh=false∨ij x≠n then 7 else 0)
theorem vU (l:List Int) (n:Int):(b5 l n).length=0↔l.any (ji n)=false:=by
 rw[List.length_eq_zero_iff,List.any_eq_false];unfold b5 ji;rw[List.filter_eq_nil_iff]
theorem Dw {l:List CF} {x:CF} {c:b8} (hr:jh x):PV l x c=if iQ l x c.kind c.node≠0 then iQ l x c.kind c.node else tJ x:=by
 have h5:=hr.2.2.1;unfold PV iQ;by_cases k1:c.kind=1
 ·rw[if_pos k1,if_pos k1];by_cases a:c.node∉aG x
  ·rw[if_pos a,if_pos a];rfl
  ·rw[if_neg a,if_neg a];by_cases b:(eB x).any (ji c.node)=false
   ·rw[if_pos b,if_pos ((vU _ _).2 b)];rfl
   ·rw[if_neg b,if_neg (mt (vU _ _).1 b)];rfl
 rw[if_neg k1,if_neg k1];by_cases k2:c.kind=2
 ·rw[if_pos k2,if_pos k2];by_cases a:c.node∈gz l
  ·rw[if_pos a,if_pos a];rfl
  ·rw[if_neg a,if_neg a];by_cases b:x.join≠0∨x.fresh=true
   ·rw[if_pos b,if_pos b];rfl
   ·rw[if_neg b,if_neg b];by_cases d:x.nodes.length≥5
    ·rw[if_pos d,if_pos om];rfl
    ·rw[if_neg d,if_neg om];rfl
 rw[if_neg k2,if_neg k2];by_cases k3:c.kind=3
 ·rw[if_pos k3,if_pos k3];by_cases a:x.join≠c.node
  ·rw[if_pos a,if_pos a];rfl
  ·rw[if_neg a,if_neg a];by_cases d:x.nodes.length≥5
   ·rw[if_pos d,if_pos om];rfl
   ·rw[if_neg d,if_neg om];rfl
 rw[if_neg k3,if_neg k3];by_cases a:x.fresh=false∨ij x≠c.node
 ·rw[if_pos a,if_pos a];rfl
 ·rw[if_neg a,if_neg a];rfl
theorem Dx (l:List CF) (x:CF) (n:Int) (hr:jh x):VC E0 180 0 [.sl 5 (l.map aJ) false,.agg (aJ x),.s (.int .i64 n)] [] (RR (.s (.int .i64 (iQ l x 1 n))) 0 []):=by
 have h5:=hr.2.2.1;have KY:=fi x;have hC:iQ l x 1 n=if n∉aG x then 7 else if(eB x).any (ji n)=false then 12 else 0:=by unfold iQ;rw[if_pos rfl]
 refine en L0 Tryz.f180 ?_;refine⟨[],[],_,_,_,_,lu x om,t3,cw ?_⟩;refine⟨[2],[],_,_,_,_,iH (aG x) n om,t3,?_⟩;rintro r o' c' ⟨rfl,rfl,rfl⟩;by_cases hm:n∈aG x
 ·rw[if_neg (fun q=>q hm)]at hC;rw[decide_eq_true hm];refine wh ?_;have vn:(eB x).length≤x.nodes.length:=by unfold eB;split<;>simp
  refine⟨[],[],_,_,_,_,IQ x h5,t3,cw ?_⟩;refine⟨[3],[some 1],_,_,_,_,Dv n (eB x) om,t3,?_⟩;rintro r o' c' ⟨rfl,rfl,rfl⟩;by_cases ha:(eB x).any (ji n)=true
  ·rw[if_neg (by rw[ha];decide)]at hC;rw[ha];refine wh ?_;refine⟨[],[],_,_,_,tx ?_,rfl,rfl,rfl⟩;exact Lz.int hC.symm
  ·rw[if_pos (Bool.eq_false_iff.2 ha)]at hC;rw[Bool.eq_false_iff.2 ha];refine wh ?_;refine⟨[],[],_,_,_,tx ?_,rfl,rfl,rfl⟩;exact Lz.int hC.symm
 ·rw[if_pos hm]at hC;rw[decide_eq_false hm];refine wh ?_;refine⟨[],[],_,_,_,tx ?_,rfl,rfl,rfl⟩;exact Lz.int hC.symm
theorem Dy (l:List CF) (x:CF) (n:Int) (hl:l.length<10000) (hn:∀c∈l,c.nodes.length<10000):VC E0 182 0 [.sl 5 (l.map aJ) false,.agg (aJ x),.s (.int .i64 n)] [] (RR (.s (.int .i64 (iQ l x 2 n))) 0 []):=by
 have hC:iQ l x 2 n=if n∈gz l then 8 else if x.join≠0∨x.fresh=true then 12 else if x.nodes.length≥5 then 9 else 0:=by unfold iQ;rw[if_neg (by decide),if_pos rfl]
 refine en L0 Tryz.f182 ?_;refine⟨[],[],_,_,_,_,TD l n hl hn,t3,?_⟩;rintro r o' c' ⟨rfl,rfl,rfl⟩;by_cases hm:n∈gz l
 ·rw[if_pos hm]at hC;rw[decide_eq_true hm];refine wh ?_;refine⟨[],[],_,_,_,tx ?_,rfl,rfl,rfl⟩;exact Lz.int hC.symm
 ·rw[if_neg hm]at hC;rw[decide_eq_false hm];refine wh ?_;refine sp ?_ ?_<;>intro hj
  ·have hj:x.join≠0:=hj;rw[if_pos (.inl hj)]at hC;refine wh ?_;refine⟨[],[],_,_,_,tx ?_,rfl,rfl,rfl⟩;exact Lz.int hC.symm
  ·have hj:x.join=0:=Classical.not_not.1 hj;refine wh ?_;cases hf:x.fresh
   ·rw[if_neg (by rw[hj,hf];simp)]at hC;refine wh ?_;refine sp ?_ ?_<;>intro hz
    ·have hz:(((x.nodes.map aW).length:Nat):Int)≥5:=hz;rw[List.length_map]at hz;rw[if_pos om]at hC;refine wh ?_;refine⟨[],[],_,_,_,tx ?_,rfl,rfl,rfl⟩;exact Lz.int hC.symm
    ·have hz:¬(((x.nodes.map aW).length:Nat):Int)≥5:=hz;rw[List.length_map]at hz;rw[if_neg om]at hC;refine wh ?_;refine⟨[],[],_,_,_,tx ?_,rfl,rfl,rfl⟩;exact Lz.int hC.symm
   ·rw[if_pos (.inr hf)]at hC;refine wh ?_;refine⟨[],[],_,_,_,tx ?_,rfl,rfl,rfl⟩;exact Lz.int hC.symm
theorem Au (l:List CF) (x:CF) (n:Int):VC E0 184 0 [.sl 5 (l.map aJ) false,.agg (aJ x),.s (.int .i64 n)] [] (RR (.s (.int .i64 (iQ l x 3 n))) 0 []):=by
 have hC:iQ l x 3 n=if x.join≠n then 7 else if x.nodes.length≥5 then 9 else 0:=by unfold iQ;rw[if_neg (by decide),if_neg (by decide),if_pos rfl]
 refine en L0 Tryz.f184 ?_;refine sp ?_ ?_<;>intro hj
 ·have hj:x.join≠n:=hj;rw[if_pos hj]at hC;refine wh ?_;refine⟨[],[],_,_,_,tx ?_,rfl,rfl,rfl⟩;exact Lz.int hC.symm
 ·have hj:¬x.join≠n:=hj;rw[if_neg hj]at hC;refine wh ?_;refine sp ?_ ?_<;>intro hz
  ·have hz:(((x.nodes.map aW).length:Nat):Int)≥5:=hz;rw[List.length_map]at hz;rw[if_pos om]at hC;refine wh ?_;refine⟨[],[],_,_,_,tx ?_,rfl,rfl,rfl⟩;exact Lz.int hC.symm
  ·have hz:¬(((x.nodes.map aW).length:Nat):Int)≥5:=hz;rw[List.length_map]at hz;rw[if_neg om]at hC;refine wh ?_;refine⟨[],[],_,_,_,tx ?_,rfl,rfl,rfl⟩;exact Lz.int hC.symm
theorem Dz (l:List CF) (x:CF) (k n:Int) (hr:jh x) (k1:k≠1) (k2:k≠2) (k3:k≠3):VC E0 186 0 [.sl 5 (l.map aJ) false,.agg (aJ x),.s (.int .i64 n)] [] (RR (.s (.int .i64 (iQ l x k n))) 0 []):=by
 have hC:iQ l x k n=if x.fresh=false∨ij x≠n then 7 else 0:=by unfold iQ;rw[if_neg k1,if_neg k2,if_neg k3]
 refine en L0 Tryz.f186 ?_;cases hf:x.fresh
 ·rw[if_pos (.inl hf)]at hC;refine wh ?_;refine⟨[],[],_,_,_,tx ?_,rfl,rfl,rfl⟩;exact Lz.int hC.symm
 ·refine wh ?_;refine⟨[],[],_,_,_,_,TC x hr.2.2.1,⟨by((repeat' first|exact LF|constructor);all_goals(exact Lz.of (an hf.symm))),by((repeat' first|exact LF|constructor);all_goals(exact Lz.of (an hf.symm))),by rfl⟩,?_⟩;rintro r o' c' ⟨rfl,rfl,rfl⟩;refine wh ?_;refine sp ?_ ?_<;>intro HW
  ·have HW:ij x≠n:=HW;rw[if_pos (.inr HW)]at hC;refine wh ?_;refine⟨[],[],_,_,_,tx ?_,rfl,rfl,rfl⟩;exact Lz.int hC.symm
  ·have HW:¬ij x≠n:=HW;rw[if_neg (by rw[hf];simpa using HW)]at hC;refine wh ?_;refine⟨[],[],_,_,_,tx ?_,rfl,rfl,rfl⟩;exact Lz.int hC.symm
theorem PY:VC E0 132 0 [.s (.int .i64 1)] [] (RR (.agg [.cW 180 [] [],.cW 181 [] []]) 0 []):=by
 refine en L0 Tryz.f132 ?_
 repeat((first|(refine⟨fun h_=>?_,fun h_=>?_⟩)|(refine cg (fun h_=>?_) (fun h_=>?_))|(refine cd (fun h_=>?_) (fun h_=>?_)))<;>first|(exfalso;revert h_;decide;done)|(exact absurd rfl h_)|(have bj:=True.intro;clear bj;(conv=>whnf)))
 exact⟨[],[],_,_,_,t3,rfl,rfl,rfl⟩
theorem PZ:VC E0 132 0 [.s (.int .i64 2)] [] (RR (.agg [.cW 182 [] [],.cW 183 [] []]) 0 []):=by
 refine en L0 Tryz.f132 ?_
 repeat((first|(refine⟨fun h_=>?_,fun h_=>?_⟩)|(refine cg (fun h_=>?_) (fun h_=>?_))|(refine cd (fun h_=>?_) (fun h_=>?_)))<;>first|(exfalso;revert h_;decide;done)|(exact absurd rfl h_)|(have bj:=True.intro;clear bj;(conv=>whnf)))
 exact⟨[],[],_,_,_,t3,rfl,rfl,rfl⟩
theorem P0:VC E0 132 0 [.s (.int .i64 3)] [] (RR (.agg [.cW 184 [] [],.cW 185 [] []]) 0 []):=by
 refine en L0 Tryz.f132 ?_
 repeat((first|(refine⟨fun h_=>?_,fun h_=>?_⟩)|(refine cg (fun h_=>?_) (fun h_=>?_))|(refine cd (fun h_=>?_) (fun h_=>?_)))<;>first|(exfalso;revert h_;decide;done)|(exact absurd rfl h_)|(have bj:=True.intro;clear bj;(conv=>whnf)))
 exact⟨[],[],_,_,_,t3,rfl,rfl,rfl⟩
theorem P1 (k:Int) (k1:k≠1) (k2:k≠2) (k3:k≠3):VC E0 132 0 [.s (.int .i64 k)] [] (RR (.agg [.cW 186 [] [],.cW 187 [] []]) 0 []):=by
 refine en L0 Tryz.f132 ?_;refine sp ?_ ?_<;>intro h
 ·exact absurd h k1
 refine wh ?_;refine sp ?_ ?_<;>intro h
 ·exact absurd h k2
 refine wh ?_;refine sp ?_ ?_<;>intro h
 ·exact absurd h k3
 refine wh ?_;exact⟨[],[],_,_,_,t3,rfl,rfl,rfl⟩
set_option maxHeartbeats 4000000
open Classical in
open Classical in
theorem DA (l:List CF) (c:b8):VC E0 94 0 [.sl 5 (l.map aJ) false,Kh c] [] (RR (.s (.int .i64 (iI l c))) 0 []):=by
 refine en L0 Tryz.f94 ?_;refine⟨[],[],_,_,_,_,Kl l,t3,?_⟩;rintro r o' c' ⟨rfl,rfl,rfl⟩;by_cases ha:kA l;rotate_left
 ·rw[decide_eq_false ha];refine wh ?_;refine⟨[],[],_,_,_,tx ?_,rfl,rfl,rfl⟩;exact Lz.int (by unfold iI;rw[if_pos ha])
 rw[decide_eq_true ha];refine wh ?_;refine⟨[],[],_,_,_,_,lk c.kind c.chain c.aq c.node,t3,cw ?_⟩;refine sp ?_ ?_<;>intro hk
 ·have hk:c.check≠0:=hk;refine wh ?_;refine⟨[],[],_,_,_,tx ?_,rfl,rfl,rfl⟩;exact Lz.int (by unfold iI;rw[if_neg (fun q=>q ha),if_pos hk];rfl)
 have hk:c.check=0:=Classical.not_not.1 hk;refine wh ?_;refine sp ?_ ?_<;>intro h0
 ·have h0:c.kind=0:=h0;refine wh ?_;refine⟨[],[],_,_,_,tx ?_,rfl,rfl,rfl⟩;exact Lz.int (by unfold iI;rw[if_neg (fun q=>q ha),if_neg (fun q=>q hk),if_pos h0];exact hk)
 have h0:¬c.kind=0:=h0;have mw:=np hk h0;have hl4:=ha.1.2;refine wh ?_;refine sp ?_ ?_<;>intro h1
 ·have h1:c.chain≥(((l.map aJ).length:Nat):Int):=h1;rw[List.length_map]at h1;have N4:l[c.chain.toNat]? =none:=List.getElem?_eq_none om;refine wh ?_;refine⟨[],[],_,_,_,tx ?_,rfl,rfl,rfl⟩;exact Lz.int (by unfold iI;rw[if_neg (fun q=>q ha),if_neg (fun q=>q hk),if_neg h0,N4])
 have h1:¬c.chain≥(((l.map aJ).length:Nat):Int):=h1;rw[List.length_map]at h1;have aU:c.chain.toNat<l.length:=by omega
 have aaV:l[c.chain.toNat]? =some l[c.chain.toNat]:=List.getElem?_eq_getElem aU;have hr:=kB ha (List.getElem_mem aU);have hC:iI l c=if l[c.chain.toNat].aq≠c.aq then 10 else PV l l[c.chain.toNat] c:=by unfold iI;rw[if_neg (fun q=>q ha),if_neg (fun q=>q hk),if_neg h0,aaV]
 rw[Dw hr]at hC;refine wh ?_;refine Va mw.1 aU ?_;refine wh ?_;refine sp ?_ ?_<;>intro h2
 ·have h2:l[c.chain.toNat].aq≠c.aq:=h2;rw[if_pos h2]at hC;refine wh ?_;refine⟨[],[],_,_,_,tx ?_,rfl,rfl,rfl⟩;exact Lz.int hC.symm
 have h2:¬l[c.chain.toNat].aq≠c.aq:=h2;rw[if_neg h2]at hC;refine wh ?_;by_cases k1:c.kind=1
 ·rw[k1]at hC;refine⟨[],[],_,_,_,_,PY,⟨by((repeat' first|exact LF|constructor);all_goals(exact Lz.int k1)),by((repeat' first|exact LF|constructor);all_goals(exact Lz.int k1)),by rfl⟩,?_⟩;rintro r o' c' ⟨rfl,rfl,rfl⟩;refine wh ?_;refine⟨[],[],_,_,_,_,Dx l l[c.chain.toNat] c.node hr,t3,cw ?_⟩;refine sp ?_ ?_<;>intro he
  ·have he:iQ l l[c.chain.toNat] 1 c.node≠0:=he;rw[if_pos he]at hC;refine wh ?_;refine⟨[],[],_,_,_,tx ?_,rfl,rfl,rfl⟩;exact Lz.int hC.symm
  ·have he:¬iQ l l[c.chain.toNat] 1 c.node≠0:=he;rw[if_neg he]at hC;refine wh ?_;refine sp ?_ ?_<;>intro hm
   ·have hm:l[c.chain.toNat].aq=18446744073709551615:=hm;refine wh ?_;refine⟨[],[],_,_,_,tx ?_,rfl,rfl,rfl⟩;exact Lz.int (by rw[hC];unfold tJ;rw[if_pos hm])
   ·have hm:¬l[c.chain.toNat].aq=18446744073709551615:=hm;refine wh ?_;refine⟨[],[],_,_,_,tx ?_,rfl,rfl,rfl⟩;exact Lz.int (by rw[hC];unfold tJ;rw[if_neg hm])
 by_cases k2:c.kind=2
 ·rw[k2]at hC;refine⟨[],[],_,_,_,_,PZ,⟨by((repeat' first|exact LF|constructor);all_goals(exact Lz.int k2)),by((repeat' first|exact LF|constructor);all_goals(exact Lz.int k2)),by rfl⟩,?_⟩;rintro r o' c' ⟨rfl,rfl,rfl⟩;refine wh ?_;refine⟨[],[],_,_,_,_,Dy l l[c.chain.toNat] c.node om (fun x hx=>by have:=(kB ha hx).2.2.1;omega),t3,cw ?_⟩;refine sp ?_ ?_<;>intro he
  ·have he:iQ l l[c.chain.toNat] 2 c.node≠0:=he;rw[if_pos he]at hC;refine wh ?_;refine⟨[],[],_,_,_,tx ?_,rfl,rfl,rfl⟩;exact Lz.int hC.symm
  ·have he:¬iQ l l[c.chain.toNat] 2 c.node≠0:=he;rw[if_neg he]at hC;refine wh ?_;refine sp ?_ ?_<;>intro hm
   ·have hm:l[c.chain.toNat].aq=18446744073709551615:=hm;refine wh ?_;refine⟨[],[],_,_,_,tx ?_,rfl,rfl,rfl⟩;exact Lz.int (by rw[hC];unfold tJ;rw[if_pos hm])
   ·have hm:¬l[c.chain.toNat].aq=18446744073709551615:=hm;refine wh ?_;refine⟨[],[],_,_,_,tx ?_,rfl,rfl,rfl⟩;exact Lz.int (by rw[hC];unfold tJ;rw[if_neg hm])
 by_cases k3:c.kind=3
 ·rw[k3]at hC;refine⟨[],[],_,_,_,_,P0,⟨by((repeat' first|exact LF|constructor);all_goals(exact Lz.int k3)),by((repeat' first|exact LF|constructor);all_goals(exact Lz.int k3)),by rfl⟩,?_⟩;rintro r o' c' ⟨rfl,rfl,rfl⟩;refine wh ?_;refine⟨[],[],_,_,_,_,Au l l[c.chain.toNat] c.node,t3,cw ?_⟩;refine sp ?_ ?_<;>intro he
  ·have he:iQ l l[c.chain.toNat] 3 c.node≠0:=he;rw[if_pos he]at hC;refine wh ?_;refine⟨[],[],_,_,_,tx ?_,rfl,rfl,rfl⟩;exact Lz.int hC.symm
  ·have he:¬iQ l l[c.chain.toNat] 3 c.node≠0:=he;rw[if_neg he]at hC;refine wh ?_;refine sp ?_ ?_<;>intro hm
   ·have hm:l[c.chain.toNat].aq=18446744073709551615:=hm;refine wh ?_;refine⟨[],[],_,_,_,tx ?_,rfl,rfl,rfl⟩;exact Lz.int (by rw[hC];unfold tJ;rw[if_pos hm])
   ·have hm:¬l[c.chain.toNat].aq=18446744073709551615:=hm;refine wh ?_;refine⟨[],[],_,_,_,tx ?_,rfl,rfl,rfl⟩;exact Lz.int (by rw[hC];unfold tJ;rw[if_neg hm])
 refine⟨[],[],_,_,_,_,P1 c.kind k1 k2 k3,t3,cw ?_⟩;refine⟨[],[],_,_,_,_,Dz l l[c.chain.toNat] c.kind c.node hr k1 k2 k3,t3,cw ?_⟩;refine sp ?_ ?_<;>intro he
 ·have he:iQ l l[c.chain.toNat] c.kind c.node≠0:=he;rw[if_pos he]at hC;refine wh ?_;refine⟨[],[],_,_,_,tx ?_,rfl,rfl,rfl⟩;exact Lz.int hC.symm
 ·have he:¬iQ l l[c.chain.toNat] c.kind c.node≠0:=he;rw[if_neg he]at hC;refine wh ?_;refine sp ?_ ?_<;>intro hm
  ·have hm:l[c.chain.toNat].aq=18446744073709551615:=hm;refine wh ?_;refine⟨[],[],_,_,_,tx ?_,rfl,rfl,rfl⟩;exact Lz.int (by rw[hC];unfold tJ;rw[if_pos hm])
  ·have hm:¬l[c.chain.toNat].aq=18446744073709551615:=hm;refine wh ?_;refine⟨[],[],_,_,_,tx ?_,rfl,rfl,rfl⟩;exact Lz.int (by rw[hC];unfold tJ;rw[if_neg hm])
end Go.M
namespace Go.M
open Go Go.Proofs
set_option maxRecDepth 100000
set_option maxHeartbeats 4000000
def kg (x:CF) (k n:Int):CF:=
 if k=1 then(if x.join=n then⟨x.chain,x.aq+1,x.nodes,x.fresh,0⟩else⟨x.chain,x.aq+1,b5 x.nodes n,x.fresh&&decide (ij x≠n),x.join⟩)
 else if k=2 then⟨x.chain,x.aq+1,x.nodes,x.fresh,n⟩
 else if k=3 then⟨x.chain,x.aq+1,x.nodes++[n],true,0⟩
 else⟨x.chain,x.aq+1,x.nodes,false,x.join⟩
noncomputable def kH (l:List CF) (c:b8):List CF×Bool:=
 if iI l c≠0 then(l,false)else if c.kind=0 then(l,true)else
 match l[c.chain.toNat]? with
 |none=>(l,true)
 |some x=>(l.set c.chain.toNat (kg x c.kind c.node),true)
theorem DB {l:List CF} {c:b8} (h:iI l c=0) (hk:c.kind≠0):kA l∧c.check=0∧∃aU:c.chain.toNat<l.length,l[c.chain.toNat].aq<18446744073709551615∨18446744073709551615<l[c.chain.toNat].aq:=by
 unfold iI at h;by_cases ha:kA l
 ·rw[if_neg (fun q=>q ha)]at h;by_cases hc:c.check≠0
  ·rw[if_pos hc]at h;exact absurd h hc
  ·rw[if_neg hc,if_neg hk]at h;have RC:c.check=0:=Classical.not_not.1 hc;refine⟨ha,RC,?_⟩;cases hq:l[c.chain.toNat]? with
   |none=>rw[hq]at h;exact absurd (show(7:Int)=0 from h) (by decide)
   |some x=>
    rw[hq]at h;obtain⟨aU,hx⟩:=List.getElem?_eq_some_iff.1 hq;refine⟨aU,?_⟩;dsimp only at h;by_cases he:x.aq≠c.aq
    ·rw[if_pos he]at h;exact absurd h (by decide)
    ·rw[if_neg he,Dw (hx▸kB ha (List.getElem_mem aU))]at h;by_cases hz:iQ l x c.kind c.node≠0
     ·rw[if_pos hz]at h;exact absurd h hz
     ·rw[if_neg hz]at h;unfold tJ at h;by_cases hm:x.aq=18446744073709551615
      ·rw[if_pos hm]at h;exact absurd h (by decide)
      ·rw[hx];omega
 ·rw[if_pos ha]at h;exact absurd h (by decide)
def TE (K:List ai):Nat→Nat→Nat
 |0,n=>n
 |m+1,n=>match K[n]? with
  |some v=>if v.slot=(n:Int)then TE K m (n+1)else n
  |none=>n
def aD (K:List ai):Nat:=TE K K.length 0
def pN (K:List ai):Int:=match K.getLast? with
 |none=>0
 |some v=>v.slot+1
noncomputable def a8 (K:List ai) (l:List CF):Nat→List CF×List CF
 |0=>([],l)
 |n+1=>match K[n]? with
  |none=>a8 K l n
  |some v=>(if(kH (a8 K l n).2 (aA v)).2=true∧v.kind≠0 then(a8 K l n).1++((kH (a8 K l n).2 (aA v)).1[v.chain.toNat]?).toList else(a8 K l n).1,(kH (a8 K l n).2 (aA v)).1)
structure Km (l:List CF):Prop where
 len:l.length≤6
 ep:∀c∈l,0≤c.aq∧c.aq≤18446744073709551615
 n6:∀c∈l,c.nodes.length≤6
theorem Kn (l:List CF) (c:b8):(kH l c).1.length=l.length:=by
 unfold kH;split
 ·rfl
 ·split
  ·rfl
  ·split
   ·rfl
   ·simp
theorem P2 {l:List CF} {c:b8} (h:(kH l c).2=true) (_:c.kind≠0):iI l c=0:=by
 unfold kH at h;by_cases hc:iI l c≠0
 ·rw[if_pos hc]at h;exact absurd (show false=true from h) Bool.false_ne_true
 ·exact Classical.not_not.1 hc
theorem P3 {x:CF} {k n:Int} (h5:x.nodes.length≤5) (he:0≤x.aq∧x.aq<18446744073709551615):(0≤(kg x k n).aq∧(kg x k n).aq≤18446744073709551615)∧(kg x k n).nodes.length≤6:=by
 have hw:=Du x.nodes n;unfold kg
 repeat' split
 all_goals(dsimp only;first|exact⟨⟨om,om⟩,om⟩|exact⟨⟨om,om⟩,by simp;omega⟩)
theorem Km.do {l:List CF} (h:Km l) (c:b8):Km (kH l c).1:=by
 by_cases hc:iI l c=0
 ·by_cases hk:c.kind=0
  ·have:kH l c=(l,true):=by unfold kH;rw[if_neg (fun q=>q hc),if_pos hk]
   rw[this];exact h
  ·obtain⟨ha,rG,aU,hm⟩:=DB hc hk;have hC:kH l c=(l.set c.chain.toNat (kg l[c.chain.toNat] c.kind c.node),true):=by unfold kH;rw[if_neg (fun q=>q hc),if_neg hk,List.getElem?_eq_getElem aU]
   have h5:=(kB ha (List.getElem_mem aU)).2.2.1;have hep:=h.ep _ (List.getElem_mem aU);have hmo:=P3 (x:=l[c.chain.toNat]) (k:=c.kind) (n:=c.node) h5.2 ⟨hep.1,om⟩;rw[hC];refine⟨by simpa using h.len,fun x hx=>?_,fun x hx=>?_⟩
   ·rcases List.mem_or_eq_of_mem_set hx with q|rfl
    ·exact h.ep x q
    ·exact hmo.1
   ·rcases List.mem_or_eq_of_mem_set hx with q|rfl
    ·exact h.n6 x q
    ·exact hmo.2
 ·have:kH l c=(l,false):=by unfold kH;rw[if_pos hc]
  rw[this];exact h
theorem Km.bk {l:List CF} (h:Km l) (K:List ai):∀n,Km (a8 K l n).2
 |0=>h
 |n+1=>by
  have ih:=h.bk K n;unfold a8;cases K[n]? with
  |none=>exact ih
  |some v=>exact ih.do _
theorem qx (K:List ai) (l:List CF):∀n,(a8 K l n).1.length≤n
 |0=>by simp[a8]
 |n+1=>by
  have ih:=qx K l n;unfold a8;cases K[n]? with
  |none=>dsimp only;omega
  |some v=>
   dsimp only
   split
   ·rw[List.length_append];have:((kH (a8 K l n).2 (aA v)).1[v.chain.toNat]?).toList.length≤1:=by
     cases(kH (a8 K l n).2 (aA v)).1[v.chain.toNat]? <;>simp
    omega
   ·omega
def nf:Nat→List ai→Nat
 |n,[]=>n
 |n,x::l=>if x.slot=(n:Int)then nf (n+1) l else n
theorem Ko:∀(l:List ai) (n:Nat),n≤nf n l
 |[],n=>Nat.le_refl n
 |x::l,n=>by
  unfold nf;split
  ·exact Nat.le_trans (Nat.le_succ n) (Ko l (n+1))
  ·exact Nat.le_refl n
theorem Vf:∀(l:List ai) (n:Nat),nf n l≤n+l.length
 |[],n=>Nat.le_refl n
 |x::l,n=>by
  have:=Vf l (n+1);unfold nf;rw[List.length_cons];split<;>omega
theorem Kp (K:List ai):∀(m n:Nat),m+n=K.length→TE K m n=nf n (K.drop n)
 |0,n,h=>by
  rw[List.drop_eq_nil_of_le om];rfl
 |m+1,n,h=>by
  have aU:n<K.length:=by omega
  have ih:=Kp K m (n+1) om;rw[List.drop_eq_getElem_cons aU];unfold TE nf;rw[List.getElem?_eq_getElem aU];dsimp only
  split
  ·exact ih
  ·rfl
theorem lx (K:List ai):aD K=nf 0 K:=Kp K K.length 0 om
theorem y8 (K:List ai):aD K≤K.length:=by rw[lx];have:=Vf K 0;omega
theorem IT (v:ai):∀(l:List ai) (n:Nat),SS l→(∀x∈l,(n:Int)≤x.slot)→(n:Int)≤v.slot→(∀x∈l,x.slot=v.slot→aA x=aA v)→
 nf n l≤nf n (put l v)∧∀i,n+i<nf n l→(l[i]?).map aA=((put l v)[i]?).map aA
 |[],n,_,_,_,_=>⟨Ko _ n,fun i h=>by simp only[nf]at h;omega⟩
 |x::l,n,hS,xF,hv,hc=>by
  obtain⟨Xa,Nn⟩:=List.pairwise_cons.1 hS;by_cases hx:x.slot=(n:Int)
  ·by_cases h1:x.slot<v.slot
   ·have ih:=IT v l (n+1) Nn (fun y hy=>by have:=Xa y hy;omega) om (fun y hy=>hc y (List.mem_cons_of_mem _ hy));have e1:nf n (x::l)=nf (n+1) l:=by rw[nf,if_pos hx]
    have e2:put (x::l) v=x::put l v:=by rw[put,if_pos h1]
    have e3:nf n (x::put l v)=nf (n+1) (put l v):=by rw[nf,if_pos hx]
    rw[e1,e2,e3];refine⟨ih.1,fun i hi=>?_⟩;cases i with
    |zero=>rfl
    |succ i=>simpa using ih.2 i om
   ·have h2:x.slot=v.slot:=by omega
    have e2:put (x::l) v=v::l:=by rw[put,if_neg h1,if_pos h2]
    have e1:nf n (x::l)=nf (n+1) l:=by rw[nf,if_pos hx]
    have e3:nf n (v::l)=nf (n+1) l:=by rw[nf,if_pos (h2▸hx)]
    rw[e1,e2,e3];refine⟨Nat.le_refl _,fun i hi=>?_⟩;cases i with
    |zero=>simp[hc x List.mem_cons_self h2]
    |succ i=>rfl
  ·have e1:nf n (x::l)=n:=by rw[nf,if_neg hx]
   rw[e1];exact⟨Ko _ n,fun i hi=>by omega⟩
theorem sg {K K':List ai} {l:List CF}:∀{n:Nat},(∀i<n,(K[i]?).map aA=(K'[i]?).map aA)→a8 K l n=a8 K' l n
 |0,_=>rfl
 |n+1,h=>by
  have ih:=sg (l:=l) (n:=n) fun i hi=>h i om;have hn:=h n (Nat.lt_succ_self n);unfold a8;rw[ih];cases h1:K[n]? with
  |none=>
   cases h2:K'[n]? with
   |none=>rfl
   |some w=>rw[h1,h2]at hn;cases hn
  |some v=>
   cases h2:K'[n]? with
   |none=>rw[h1,h2]at hn;cases hn
   |some w=>
    rw[h1,h2]at hn;have e:aA v=aA w:=by simpa using hn
    have ek:v.kind=w.kind:=congrArg b8.kind e;have ec:v.chain=w.chain:=congrArg b8.chain e;dsimp only
    rw[e,ek,ec]
theorem si (K:List ai) (l:List CF) (n:Nat):∀m,(a8 K l n).1<+:(a8 K l (n+m)).1
 |0=>List.prefix_rfl
 |m+1=>by
  have ih:=si K l n m;show _<+:(a8 K l ((n+m)+1)).1;rw[a8];cases K[n+m]? with
  |none=>exact ih
  |some v=>
   dsimp only
   split
   ·exact ih.trans (List.prefix_append _ _)
   ·exact ih
structure Av (K:List ai):Prop where
 ss:SS K
 pI:∀v∈K,0≤v.slot∧v.slot<512
 len:K.length<900
 ep:∀v∈K,0≤v.aq
noncomputable def gS (K:List ai) (l:List CF):List CF:=(a8 K l (aD K)).1
def other (K:List ai) (slot:Int) (c:b8):Bool:=match tF K slot with
 |none=>false
 |some v=> !(kf (aA v) c)
noncomputable def bp (K:List ai) (l:List CF) (slot:Int) (c:b8):List ai×List CF×Int:=
 if slot<0∨slot>511 then(K,[],1)else if c.check≠0 then(K,[],c.check)else if other K slot c=true then(K,[],8)
 else(put K (.of slot 0 c),(gS (put K (.of slot 0 c)) l).drop (gS K l).length,0)
theorem Mh {K:List ai} (h:Av K) {l:List CF} {slot:Int} {c:b8} (hs:0≤slot) (ho:other K slot c=false):gS K l<+:gS (put K (.of slot 0 c)) l:=by
 have hp:=IT (.of slot 0 c) K 0 h.ss (fun v hv=>(h.pI v hv).1) hs (fun v hv e=>by
  have D3:tF K slot=some v:=(gP h.ss).2 ⟨hv,e⟩;unfold other at ho;rw[D3]at ho;have:kf (aA v) c=true:=by simpa using ho
  exact u4.1 this)
 rw[←lx,←lx]at hp;unfold gS;rw[sg (K':=put K (.of slot 0 c)) (fun i hi=>hp.2 i om)];obtain⟨m,hm⟩:=Nat.exists_eq_add_of_le hp.1;rw[hm];exact si _ _ _ _
def pO (base:Nat) (k:Nat):List Int:=(List.range k).map fun(q:Nat)=>((base+q+1:Nat):Int)
theorem F7 (b k:Nat):pO b (k+1)=pO b k++[((b+k+1:Nat):Int)]:=by simp[pO,List.range_succ]
def Vg (eC:Nat) (i:Nat):CF:=⟨i,1,pO (i*eC) eC,false,0⟩
def ly (eC:Nat) (i:Nat):List CF:=(List.range i).map (Vg eC)
theorem F8 (eC i:Nat):ly eC (i+1)=ly eC i++[Vg eC i]:=by simp[ly,List.range_succ]
def Xb (fj eC:Int):Prop:=(1≤fj∧fj≤4)∧1≤eC∧eC≤5
theorem F9 (fj eC:Nat) (h:Xb fj eC):VC E0 17 0 [.s (.int .i64 fj),.s (.int .i64 eC)] [] (RR (.c4 [.sl 5 ((ly eC fj).map aJ) false,.s (.int .i64 0)]) 0 []):=by
 obtain⟨⟨a1,a2⟩,a3,a4⟩:=h;have hmul:∀i:Nat,i≤fj→i*eC≤20:=fun i hi=>by
  have h1:i≤4:=by omega
  have h2:eC≤5:=by omega
  exact Nat.mul_le_mul h1 h2
 refine en L0 Tryz.f17 ?_;refine sp ?_ ?_<;>intro q1
 ·have q1:(fj:Int)<1:=q1;omega
 refine wh ?_;refine sp ?_ ?_<;>intro q2
 ·have q2:(fj:Int)>4:=q2;omega
 refine wh ?_;refine sp ?_ ?_<;>intro q3
 ·have q3:(eC:Int)<1:=q3;omega
 refine wh ?_;refine sp ?_ ?_<;>intro q4
 ·have q4:(eC:Int)>5:=q4;omega
 refine wh ?_;refine⟨fun kk f o c=>∃i:Nat,i≤fj∧kk=fj - i∧c=1∧f=[(0,.s (.int .i64 fj)),(1,.s (.int .i64 eC)),(6,.tk 0),(7,.s (.int .i64 (i*eC:Nat))),(8,.s (.int .i64 i))]∧o=[(0,.arr 5 true ((ly eC i).map aJ))],⟨fj,?_⟩,?_⟩
 ·refine⟨[],[none],?_⟩
  iterate 3 constructor
  refine⟨⟨?_,?_,?_⟩,⟨0,Nat.zero_le _,rfl,rfl,rfl,rfl⟩⟩
  all_goals(repeat' first|exact LF|constructor)
  all_goals exact Lz.int (by simp)
 ·rintro kk f1 o1 c1 ⟨i,hi,rfl,rfl,rfl,rfl⟩;refine wh ?_;refine sp ?_ ?_<;>intro hl
  ·have hl:i<fj:=by have:(i:Int)<(fj:Int):=hl
                    omega
   have hm:=hmul (i+1) hl;have SC:(i+1)*eC=i*eC+eC:=Nat.succ_mul i eC;refine wh ?_
   refine⟨fun kk f o c=>∃k:Nat,k≤eC∧kk=eC - k∧c=3∧f=[(0,.s (.int .i64 fj)),(1,.s (.int .i64 eC)),(6,.tk 0),(7,.s (.int .i64 (i*eC+k:Nat))),(8,.s (.int .i64 i)),(9,.ptr 1 0),(10,.s (.int .i64 k))]∧
    o=[(0,.arr 5 true ((ly eC i).map aJ)),(1,.cells [.s (.int .i64 i),.s (.int .u64 1),.tk 2,.s (.bool false),.s (.int .i64 0)]),(2,.arr 1 true ((pO (i*eC) k).map aW))],⟨eC,?_⟩,?_⟩
   ·exact⟨[],[some 0,some 1,none],_,_,_,t3,⟨0,Nat.zero_le _,rfl,rfl,rfl,rfl⟩⟩
   ·rintro kk f2 o2 c2 ⟨k,hk,rfl,rfl,rfl,rfl⟩;refine wh ?_;refine sp ?_ ?_<;>intro Ih
    ·have Ih:k<eC:=by have:(k:Int)<(eC:Int):=Ih
                      omega
     refine wh ?_;refine⟨by simp[pO];omega,?_⟩;refine wh ?_;refine⟨eC - (k+1),?_,om⟩;refine⟨[],[some 0,some 1,some 4],_,_,_,tx ?_,⟨k+1,Ih,rfl,rfl,rfl,rfl⟩⟩;exact Lz.of (by rw[F7,List.map_append,IntWalk.i64_in _ om];rfl)
    ·have Ih:k=eC:=by have:¬(k:Int)<(eC:Int):=Ih
                      omega
     subst Ih;refine wh ?_;refine⟨by simp[ly];omega,?_⟩;refine wh ?_;refine⟨fj - (i+1),?_,om⟩;refine⟨[],[some 4],?_⟩
     iterate 3 constructor
     refine⟨⟨?_,?_,?_⟩,⟨i+1,hl,rfl,rfl,rfl,rfl⟩⟩
     all_goals(repeat' first|exact LF|constructor)
     ·exact Lz.int (by rw[SC])
     ·exact Lz.of (by rw[F8,List.map_append];rfl)
  ·have hl:i=fj:=by have:¬(i:Int)<(fj:Int):=hl
                    omega
   subst hl;have hm:=hmul i (Nat.le_refl _);refine wh ?_;refine sp ?_ ?_<;>intro q5
   ·have q5:((i*eC:Nat):Int)>24:=q5;omega
   refine wh ?_;exact⟨[0],[],_,_,_,t3,rfl,rfl,rfl⟩
theorem P4 (c:CF) (hn:c.nodes.length<1000000):VC E0 57 0 [.agg (aJ c)] [] (RR (.agg (aJ c)) 0 []):=by
 refine en L0 Tryz.f57 ?_;refine⟨[],[],_,_,_,_,ig c.nodes hn,t3,cw ?_⟩;exact⟨[2],[],_,_,_,t3,rfl,rfl,rfl⟩
@[reducible] def Vh:List TV:=[.s (.int .i64 0),.s (.int .u64 0),.sl 0 [] true,.s (.bool false),.s (.int .i64 0)]
def pP (l:List CF) (j:Nat):List (List TV):=(l.take j).map aJ++List.replicate (l.length - j) Vh
theorem Mi (l:List CF) (j:Nat) (h:j≤l.length):(pP l j).length=l.length:=by unfold pP;simp;omega
theorem Mj (l:List CF) (j:Nat) (h:j<l.length):(pP l j).set j (aJ l[j])=pP l (j+1):=by
 unfold pP;have e:l.length - j=(l.length - (j+1))+1:=by omega
 have hlen:((l.take j).map aJ).length=j:=by rw[List.length_map,List.length_take];omega
 rw[e,List.replicate_succ,List.set_append,if_neg om,hlen,Nat.sub_self,List.take_succ_eq_append_getElem h,List.map_append,List.append_assoc];rfl
theorem Mk (l:List CF) (j:Nat) (h:j<l.length):(pP l j)[j]? =some Vh:=by
 unfold pP;have e:l.length - j=(l.length - (j+1))+1:=by omega
 have hlen:((l.take j).map aJ).length=j:=by rw[List.length_map,List.length_take];omega
 rw[e,List.replicate_succ,List.getElem?_append_right om,hlen,Nat.sub_self];rfl
theorem tK (l:List CF) (hl:l.length<10000) (hn:∀c∈l,c.nodes.length<1000000):VC E0 30 0 [.sl 5 (l.map aJ) false] [] (RR (.tk 0) 1 [(0,.arr 5 true (l.map aJ))]):=by
 refine en L0 Tryz.f30 ?_;refine⟨⟨om,om,by simp;omega⟩,?_⟩;refine wh ?_;refine⟨fun k f o c=>∃j:Nat,j≤l.length∧k=l.length - j∧c=1∧f=[(3,.tk 0),(9,.sl 5 (l.map aJ) false),(10,.s (.int .i64 l.length)),(11,.s (.int .i64 j))]∧o=[(0,.arr 5 true (pP l j))],⟨l.length,?_⟩,?_⟩
 ·refine⟨[],[some 0],?_⟩
  iterate 3 constructor
  refine⟨⟨?_,?_,?_⟩,⟨0,Nat.zero_le _,rfl,rfl,rfl,rfl⟩⟩
  all_goals(repeat' first|exact LF|constructor)
  ·exact Lz.int (by rw[List.length_map])
  ·exact Lz.of (by simp[pP];exact .inr rfl)
 ·rintro k f1 o1 c1 ⟨j,hj,rfl,rfl,rfl,rfl⟩;refine wh ?_;refine sp ?_ ?_<;>intro h
  ·have h:j<l.length:=by have:(j:Int)<(l.length:Nat):=h
                         omega
   refine wh ?_;refine jg h ?_;refine wh ?_;refine⟨[],[],_,_,_,_,P4 l[j] (hn _ (List.getElem_mem h)),t3,cw ?_⟩;refine⟨⟨om,by rw[Mi l j hj];omega⟩,?_⟩;refine wh ?_;refine⟨Vh,by rw[Int.toNat_natCast];exact Mk l j h,?_⟩;refine wh ?_;refine⟨l.length - (j+1),?_,om⟩;refine⟨[],[some 0],_,_,_,tx ?_,⟨j+1,h,rfl,rfl,rfl,rfl⟩⟩;exact Lz.of (by rw[Int.toNat_natCast];exact Mj l j h)
  ·have PD:j=l.length:=by have:¬(j:Int)<(l.length:Nat):=h
                          omega
   subst PD;have hc:pP l l.length=l.map aJ:=by unfold pP;simp
   rw[hc];refine wh ?_;exact⟨[],[some 0],_,_,_,t3,rfl,rfl,rfl⟩
structure oN where
 known:List (Int×b8)
 next:Int
 top:Int
 done:Int
 bK:List CF
def pQ (c:b8):TV:=.agg [.s (.int .i64 c.kind),.s (.int .i64 c.chain),.s (.int .u64 c.aq),.s (.int .i64 c.node)]
@[reducible] def y9 (x:oN) (i:Nat):TO:=.cells [.mp i,.s (.int .i64 x.next),.s (.int .i64 x.top),.s (.int .i64 x.done),.sl 5 (x.bK.map aJ) false]
@[reducible] def j5 (x:oN):TO:=.map (dV .i64) (x.known.map (j4 .i64 pQ))
@[reducible] def D5 (x:oN):Ob:=[(0,y9 x 1),(1,j5 x)]
@[reducible] def aaW (l:List CF):oN:=⟨[],0,0,0,l⟩
open Classical in
open Classical in
theorem TF (l:List CF) (h:kA l):VC E0 15 0 [.sl 5 (l.map aJ) false] [] (RR (.c4 [.ptr 0 0,.s (.int .i64 0)]) 2 (D5 (aaW l))):=by
 have h4:=h.1.2;refine en L0 Tryz.f15 ?_;refine⟨[],[],_,_,_,_,Kl l,t3,?_⟩;rintro r o' c' ⟨rfl,rfl,rfl⟩;rw[decide_eq_true h];refine wh ?_;refine⟨[],[],_,_,_,_,tK l om (fun c hc=>by have:=(kB h hc).2.2.1;omega),t3,cw ?_⟩;exact⟨[1],[some 2,some 0],_,_,_,t3,rfl,rfl,rfl⟩
theorem P5 (x:oN):VC E0 47 2 [.ptr 0 0] (D5 x) (RR (.s (.int .i64 x.next)) 2 (D5 x)):=by
 refine en L0 Tryz.f47 ?_;exact⟨[],[some 0,some 1],_,_,_,t3,rfl,rfl,rfl⟩
theorem TG (x:oN) (c:b8):VC E0 44 2 [.ptr 0 0,Kh c] (D5 x) (RR (.s (.int .i64 (iI x.bK c))) 2 (D5 x)):=by
 refine en L0 Tryz.f44 ?_;refine⟨[],[],_,_,_,_,DA x.bK c,t3,cw ?_⟩;exact⟨[],[some 0,some 1],_,_,_,t3,rfl,rfl,rfl⟩
theorem BC (x:oN) (hl:x.bK.length<10000) (hn:∀c∈x.bK,c.nodes.length<1000000):VC E0 28 2 [.ptr 0 0] (D5 x) (RR (.sl 5 (x.bK.map aJ) false) 2 (D5 x)):=by
 refine en L0 Tryz.f28 ?_;refine⟨[],[],_,_,_,_,tK x.bK hl hn,t3,cw ?_⟩;exact⟨[2],[some 0,some 1],_,_,_,t3,rfl,rfl,rfl⟩
theorem Xc (x:oN) (slot:Int):VC E0 93 2 [.ptr 0 0,.s (.int .i64 slot)] (D5 x) (RR (.c4 [pQ ((bH x.known slot).getD aF),.s (.bool (bH x.known slot).isSome)]) 2 (D5 x)):=by
 refine en L0 Tryz.f93 ?_;have hl:=l9 .i64 .i64 pQ slot x.known;cases h:bH x.known slot with
 |none=>
  rw[h]at hl;refine⟨_,hl,?_⟩;refine wh ?_;exact⟨[],[some 0,some 1],_,_,_,t3,rfl,rfl,rfl⟩
 |some c=>
  rw[h]at hl;refine⟨_,hl,?_⟩;refine wh ?_;exact⟨[],[some 0,some 1],_,_,_,t3,rfl,rfl,rfl⟩
end Go.M
namespace Go.M
open Go Go.Proofs
set_option maxRecDepth 100000
set_option maxHeartbeats 4000000
def aS:CF:=⟨0,0,[],false,0⟩
def iJ (l:List CF) (n:Int):Option CF:=if n<0 then none else l[n.toNat]?
theorem P6 (x:oN) (n:Int) (hl:x.bK.length<10000) (hn:∀c∈x.bK,c.nodes.length<1000000):VC E0 12 2 [.ptr 0 0,.s (.int .i64 n)] (D5 x)
 (RR (.c4 [.agg (aJ ((iJ x.bK n).getD aS)),.s (.bool (iJ x.bK n).isSome)]) 2 (D5 x)):=by
 refine en L0 Tryz.f12 ?_;refine⟨[],[some 0,some 1],_,_,_,_,BC x hl hn,t3,cw ?_⟩;refine sp ?_ ?_<;>intro h1
 ·have h1:n<0:=h1;have hc:iJ x.bK n=none:=by unfold iJ;rw[if_pos h1]
  rw[hc];refine wh ?_;exact⟨[],[some 0,some 1],_,_,_,t3,rfl,rfl,rfl⟩
 have h1:¬n<0:=h1;refine wh ?_;refine sp ?_ ?_<;>intro h2
 ·have h2:n≥(((x.bK.map aJ).length:Nat):Int):=h2;rw[List.length_map]at h2;have hc:iJ x.bK n=none:=by unfold iJ;rw[if_neg h1];exact List.getElem?_eq_none om
  rw[hc];refine wh ?_;exact⟨[],[some 0,some 1],_,_,_,t3,rfl,rfl,rfl⟩
 have h2:¬n≥(((x.bK.map aJ).length:Nat):Int):=h2;rw[List.length_map]at h2;have aU:n.toNat<x.bK.length:=by omega
 have hc:iJ x.bK n=some x.bK[n.toNat]:=by unfold iJ;rw[if_neg h1];exact List.getElem?_eq_getElem aU
 rw[hc];refine wh ?_;refine Va om aU ?_;refine wh ?_;exact⟨[],[some 0,some 1],_,_,_,t3,rfl,rfl,rfl⟩
end Go.M
