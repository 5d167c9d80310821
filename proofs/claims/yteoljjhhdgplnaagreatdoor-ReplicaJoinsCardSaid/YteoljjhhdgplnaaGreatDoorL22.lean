/-
  Part 22 of the library that the proof leans on.
-/
import Derived.Test.YteoljjhhdgplnaaGreatDoorL12
import Derived.Test.YteoljjhhdgplnaaGreatDoorL21
namespace Go.M
open Go Go.Proofs
set_option maxRecDepth 100000
set_option maxHeartbeats 4000000
theorem DG (k:Int):VC E0 185 0 [.s (.int .i64 k)] [] (RR (.s (.bool (Du k))) 0 []):=by
 refine en L0 Tryz.f185 ?_
 repeat'(first|((first|(refine⟨fun h=>?_,fun h=>?_⟩)|(refine aU (fun h=>?_) (fun h=>?_))|(refine aT (fun h=>?_) (fun h=>?_)))<;>(conv=>whnf)))
 all_goals(refine⟨[],[],[],_,_,⟨?_,.nil,rfl⟩,rfl,rfl,rfl⟩)
 all_goals(refine .s (Lz.of (aX ?_)))
 all_goals(unfold Du;simp_all)
theorem aaY (u:dx):VC E0 184 0 [.agg (cD u),.s (.int .i64 12)] [] (RR (.s (.int .i64 (uz u))) 0 []):=by
 refine en L0 Tryz.f184 ?_;refine⟨[],[],_,_,_,_,DG u.kind,t3,?_⟩;rintro r o' c' ⟨rfl,rfl,rfl⟩;have dw:=True.intro;clear dw;cases hk:Du u.kind
 ·refine wh ?_;refine⟨[],[],_,_,_,tx ?_,rfl,rfl,rfl⟩;exact Lz.int (by simp[uz,hk])
 ·refine wh ?_;refine sp ?_ ?_<;>intro hl
  ·have hl:2048<u.data.length:=by simp[bm]at hl;omega
   refine wh ?_;refine⟨[],[],_,_,_,tx ?_,rfl,rfl,rfl⟩;exact Lz.int (by simp[uz,hk,hl])
  ·have hl:¬2048<u.data.length:=by simp[bm]at hl;omega
   refine wh ?_;refine⟨[1],[],_,_,_,_,W5 u,t3,cw ?_⟩;refine⟨[],[],_,_,_,tx ?_,rfl,rfl,rfl⟩;exact Lz.int (by simp[uz,hk,hl])
theorem Bp (u:dx):VC E0 145 0 [.agg (cD u)] [] (RR (.s (.int .i64 (uz u))) 0 []):=by
 refine en L0 Tryz.f145 ?_;refine⟨[],[],_,_,_,_,aaY u,t3,cw ?_⟩;exact⟨[],[],_,_,_,t3,rfl,rfl,rfl⟩
structure Qv (u:dx):Prop where
 seq:0≤u.seq∧u.seq≤18446744073709551615
 num:0≤u.num∧u.num≤18446744073709551615
 ey:0≤u.ey∧u.ey≤18446744073709551615
 key:0≤u.key∧u.key≤4294967295
@[reducible] def aaZ (q:Int×Int×Bool):TV:=.cB [.s (.int .i64 q.1),.s (.int .u64 q.2.1),.s (.bool q.2.2)]
theorem ajx {n:Int} (h:0≤n∧n<18446744073709551615):IntKind.u64.wrap (n+1)=n+1:=IntWalk.u64_in _ om
theorem Lg (u:dx) (ey:Int) (room:Bool) (hv:0≤ey∧ey≤18446744073709551615):VC E0 146 0 [.agg (cD u),.s (.int .u64 ey),.s (.bool room)] [] (RR (aaZ (Cl u ey room)) 0 []):=by
 refine en L0 Tryz.f146 ?_;refine⟨[],[],_,_,_,_,DG u.kind,t3,?_⟩;rintro r o' c' ⟨rfl,rfl,rfl⟩;have dw:=True.intro;clear dw;cases hk:Du u.kind
 ·refine wh ?_;refine⟨[],[],?_⟩
  iterate 3 constructor
  refine⟨⟨?_,?_,?_⟩,rfl,rfl,rfl⟩
  all_goals(repeat' first|exact LF|constructor)
  all_goals first|exact Lz.int (by simp[Cl,hk])|exact Lz.of (aX (by simp[Cl,hk]))
 ·cases room
  all_goals
   refine wh ?_
   repeat'(first|((first|(refine⟨fun h=>?_,fun h=>?_⟩)|(refine aU (fun h=>?_) (fun h=>?_))|(refine aT (fun h=>?_) (fun h=>?_)))<;>(conv=>whnf)))
   all_goals(refine⟨[],[],[],_,_,⟨?_,.nil,rfl⟩,rfl,rfl,rfl⟩)
   all_goals(refine .cB (.cons (.s (Lz.int ?_)) (.cons (.s (Lz.int ?_)) (.cons (.s (Lz.of (aX ?_))) .nil))))
   all_goals(unfold Cl;simp_all;try first|exact ajx om|rfl |omega)
@[reducible] def l5 (v:Vs):List TV:=[.s (.int .u64 v.ey),.s (.int .u64 v.seq),.sl 1 (bm v.data) false]
theorem l6 (ns:List Int) (hl:ns.length<1000000):VC E0 117 0 [.sl 1 (bm ns) false] [] (RR (.sl 1 (bm ns) false) 0 []):=by
 refine en L0 Tryz.f117 ?_;refine⟨fun h0=>?_,?_⟩
 ·refine wh ?_;refine⟨[],[],_,_,_,tx ?_,rfl,rfl,rfl⟩;exact Lz.of h0.symm
 ·refine wh ?_;refine⟨by simp[bm];omega,?_⟩;refine wh ?_;refine⟨[1],[],?_⟩
  iterate 3 constructor
  refine⟨⟨?_,?_,?_⟩,rfl,rfl,rfl⟩
  all_goals(repeat' first|exact LF|constructor)
  all_goals exact Lz.of rfl
theorem Na (u:dx) (ey:Int) (hl:u.data.length<1000000):VC E0 148 0 [.agg (cD u),.s (.int .u64 ey)] [] (RR (.agg (l5 ⟨ey,u.seq,u.data⟩)) 0 []):=by
 refine en L0 Tryz.f148 ?_;refine⟨[],[],_,_,_,_,l6 u.data hl,t3,cw ?_⟩;exact⟨[],[],_,_,_,t3,rfl,rfl,rfl⟩
@[reducible] def W6 (vs:List Vs):TO:=.cells [.own (.arr 3 true (vs.map l5))]
@[reducible] def IP (vs:List Vs):Ob:=[(0,W6 vs)]
structure Pg (v:Vs):Prop where
 ey:0≤v.ey∧v.ey≤18446744073709551615
 seq:0≤v.seq∧v.seq≤18446744073709551615
 len:v.data.length≤2048
theorem W7:VC E0 186 0 [] [] (RR (.ptr 0 0) 1 (IP [])):=by
 refine en L0 Tryz.f186 ?_;exact⟨[],[some 0],_,_,_,t3,rfl,rfl,rfl⟩
theorem Lh (v:Vs) (hl:v.data.length<1000000):VC E0 164 0 [.agg (l5 v)] [] (RR (.agg (l5 v)) 0 []):=by
 refine en L0 Tryz.f164 ?_;refine⟨[],[],_,_,_,_,l6 v.data hl,t3,cw ?_⟩;exact⟨[],[],_,_,_,t3,rfl,rfl,rfl⟩
theorem Nb (vs:List Vs):VC E0 114 1 [.ptr 0 0] (IP vs) (RR (.s (.int .i64 vs.length)) 1 (IP vs)):=by
 refine en L0 Tryz.f114 ?_;refine⟨[],[some 0],?_⟩
 iterate 3 constructor
 refine⟨⟨?_,?_,?_⟩,rfl,rfl,rfl⟩
 all_goals(repeat' first|exact LF|constructor)
 all_goals exact Lz.int (by simp)
theorem Tl {vs:List Vs} {j:Nat} (h:j<vs.length):Vm vs j=vs[j]:=by
 unfold Vm;rw[if_pos om];simp[List.getD,h]
theorem W8 {vs:List Vs} {i:Int} (h:i<0∨vs.length≤i):Vm vs i=iL:=by
 unfold Vm;split
 ·rw[List.getD,List.getElem?_eq_none om];rfl
 ·rfl
theorem W9 (vs:List Vs) (i:Int) (h:i<0∨vs.length≤i):VC E0 113 1 [.ptr 0 0,.s (.int .i64 i)] (IP vs) (RR (.agg (l5 iL)) 1 (IP vs)):=by
 refine en L0 Tryz.f113 ?_;refine sp ?_ ?_<;>intro h0
 ·refine wh ?_;exact⟨[],[some 0],_,_,_,t3,rfl,rfl,rfl⟩
 ·have h0:¬i<0:=h0;refine wh ?_;refine sp ?_ ?_<;>intro h1
  ·refine wh ?_;exact⟨[],[some 0],_,_,_,t3,rfl,rfl,rfl⟩
  ·have h1:¬i≥(((vs.map l5).length:Nat):Int):=h1;rw[List.length_map]at h1;omega
theorem aa0 (vs:List Vs) (j:Nat) (h:j<vs.length) (hl:∀v∈vs,Pg v):VC E0 113 1 [.ptr 0 0,.s (.int .i64 j)] (IP vs) (RR (.agg (l5 vs[j])) 1 (IP vs)):=by
 have hv:=hl _ (List.getElem_mem h);refine en L0 Tryz.f113 ?_;refine sp ?_ ?_<;>intro h0
 ·have h0:(j:Int)<0:=h0;omega
 ·refine wh ?_;refine sp ?_ ?_<;>intro h1
  ·have h1:(j:Int)≥(((vs.map l5).length:Nat):Int):=h1;rw[List.length_map]at h1;omega
  ·refine wh ?_;refine⟨by simp;omega,?_⟩;refine wh ?_;refine⟨l5 vs[j],by simp[h],?_⟩;refine wh ?_;refine⟨[1],[],_,_,_,_,Lh vs[j] (by have:=hv.len;omega),t3,cw ?_⟩;exact⟨[],[some 0],_,_,_,t3,rfl,rfl,rfl⟩
theorem aa1 (vs:List Vs) (i:Int) (hl:∀v∈vs,Pg v):VC E0 113 1 [.ptr 0 0,.s (.int .i64 i)] (IP vs) (RR (.agg (l5 (Vm vs i))) 1 (IP vs)):=by
 by_cases h:0≤i∧i<vs.length
 ·obtain⟨j,rfl⟩:∃j:Nat,i=j:=⟨i.toNat,om⟩;rw[Tl (j:=j) om];exact aa0 vs j om hl
 ·rw[W8 om];exact W9 vs i om
theorem Tm (vs:List Vs) (hl:∀v∈vs,Pg v) (hn:vs.length<1000000):VC E0 79 1 [.ptr 0 0] (IP vs) (RR (.agg (l5 (jH vs))) 1 (IP vs)):=by
 refine en L0 Tryz.f79 ?_;refine⟨[],[some 0],_,_,_,_,Nb vs,t3,cw ?_⟩;rw[show IntKind.i64.wrap ((vs.length:Int) - 1)=(vs.length:Int) - 1 from IntWalk.i64_in _ om];refine⟨[],[some 0],_,_,_,_,aa1 vs ((vs.length:Int) - 1) hl,t3,cw ?_⟩;exact⟨[],[some 0],_,_,_,t3,rfl,rfl,rfl⟩
theorem Bq (vs:List Vs):vs=[]∨∃ws w,vs=ws++[w]:=by
 rcases List.eq_nil_or_concat vs with h|⟨ws,w,h⟩
 ·exact .inl h
 ·exact .inr ⟨ws,w,by simpa using h⟩
theorem iW (ws:List Vs) (w:Vs):jH (ws++[w])=w:=by
 show Vm (ws++[w]) _=w;rw[show(((ws++[w]).length:Nat):Int) - 1=((ws.length:Nat):Int)from by simp,Tl (by simp)];simp
theorem Nc (vs:List Vs) (v:Vs) (hv:0≤v.ey∧v.ey≤18446744073709551615) (hn:vs.length<100000):VC E0 187 1 [.ptr 0 0,.agg (l5 v)] (IP vs) (RR (.s (.int .i64 (qU vs v))) 1 (IP (p8 vs v))):=by
 refine en L0 Tryz.f187 ?_;refine sp ?_ ?_<;>intro h0
 ·have h0:2048<v.data.length:=by simp[bm]at h0;omega
  rw[show p8 vs v=vs from by simp[p8,qU,h0]];refine wh ?_;refine⟨[],[some 0],_,_,_,tx ?_,rfl,rfl,rfl⟩;exact Lz.int (by simp[qU,h0])
 ·have h0:¬2048<v.data.length:=by simp[bm]at h0;omega
  refine wh ?_;by_cases h1:v.ey=0∨v.seq=0
  ·rw[show p8 vs v=vs from by simp[p8,qU,h0,h1]]
   repeat'(first|((first|(refine⟨fun h=>?_,fun h=>?_⟩)|(refine aU (fun h=>?_) (fun h=>?_))|(refine aT (fun h=>?_) (fun h=>?_)))<;>((conv=>whnf)<;>repeat(with_reducible refine D1 ?_)<;>conv=>whnf)))
   all_goals first|(exfalso;omega)|skip
   all_goals
    refine⟨[],[some 0],_,_,_,tx ?_,rfl,rfl,rfl⟩;exact Lz.int (by simp[qU,h0,h1])
  ·obtain⟨h1,h2⟩:=not_or.1 h1;refine sp ?_ ?_<;>intro h3
   ·exact absurd h3 h1
   ·refine wh ?_;refine sp ?_ ?_<;>intro h4
    ·exact absurd h4 h2
    ·refine wh ?_;obtain rfl |⟨ws,w,rfl⟩:=Bq vs
     ·refine sp ?_ ?_<;>intro h5
      ·exact absurd h5 (by simp)
      ·rw[show p8 [] v=[]++[v]from by simp[p8,qU,h0,h1,h2]];refine wh ?_;refine⟨[],[],_,_,_,_,Lh v om,t3,cw ?_⟩;refine⟨by simp,?_⟩;refine wh ?_;refine⟨[],[some 0],?_⟩
       iterate 3 constructor
       refine⟨⟨?_,?_,?_⟩,rfl,rfl,rfl⟩
       all_goals(repeat' first|exact LF|constructor)
       all_goals exact Lz.int (by simp[qU,h0,h1,h2])
     ·refine sp ?_ ?_<;>intro h5
      ·have hn:ws.length+1<100000:=by simpa using hn
       have hw:IntKind.i64.wrap ((((ws++[w]).map l5).length:Int) - 1)=((ws.length:Nat):Int):=by rw[IntWalk.i64_in _ (by simp;omega)];simp
       have hs:IntKind.u64.wrap (v.ey - 1)=v.ey - 1:=IntWalk.u64_in _ om;have hx:((ws++[w]).map l5)[(IntKind.i64.wrap ((((ws++[w]).map l5).length:Int) - 1)).toNat]? =some (l5 w):=by rw[hw];simp
       refine wh ?_;refine⟨by rw[hw];simp;omega,?_⟩;refine wh ?_;refine⟨l5 w,hx,?_⟩;refine wh ?_;refine sp ?_ ?_<;>intro h6
       ·have h6:v.ey - 1≠w.ey:=by rw[←hs];exact h6
        rw[show p8 (ws++[w]) v=ws++[w]from by simp[p8,qU,h0,h1,h2,iW,h6]];refine wh ?_;refine⟨[],[some 0],_,_,_,tx ?_,rfl,rfl,rfl⟩;exact Lz.int (by simp[qU,h0,h1,h2,iW,h6])
       ·have h6:v.ey - 1=w.ey:=by rw[←hs];exact Decidable.not_not.1 h6
        refine wh ?_;refine⟨by rw[hw];simp;omega,?_⟩;refine wh ?_;refine⟨l5 w,hx,?_⟩;refine wh ?_;refine sp ?_ ?_<;>intro h7
        ·have h7:v.seq≤w.seq:=h7;rw[show p8 (ws++[w]) v=ws++[w]from by simp[p8,qU,h0,h1,h2,iW,h7]];refine wh ?_;refine⟨[],[some 0],_,_,_,tx ?_,rfl,rfl,rfl⟩;exact Lz.int (by simp[qU,h0,h1,h2,iW,h7])
        ·have h7:¬v.seq≤w.seq:=h7;rw[show p8 (ws++[w]) v=ws++[w]++[v]from by simp[p8,qU,h0,h1,h2,iW,h6,h7]];refine wh ?_;refine⟨[],[],_,_,_,_,Lh v om,t3,cw ?_⟩;refine⟨by simp;omega,?_⟩;refine wh ?_;refine⟨[],[some 0],?_⟩
         iterate 3 constructor
         refine⟨⟨?_,?_,?_⟩,rfl,rfl,rfl⟩
         all_goals(repeat' first|exact LF|constructor)
         ·exact Lz.int (by simp[qU,h0,h1,h2,iW,h6,h7])
         ·exact Lz.of (by simp)
      ·exact absurd (show(0:Int)<((((ws++[w]).map l5).length:Nat):Int) by simp) h5
theorem aa2 (i j:Nat) (h:i<j) (hj:j<1000000):IntKind.i64.wrap (Int.fdiv (IntKind.u64.wrap (IntKind.i64.wrap ((i:Int)+j))) (2 ^ min (Int.toNat 1) IntKind.u64.bits))=(((i+j) / 2:Nat):Int):=by
 rw[IntWalk.i64_in ((i:Int)+j) om,IntWalk.u64_in _ om];rw[show(2:Int) ^ min (Int.toNat 1) IntKind.u64.bits=2 from by decide];rw[Int.fdiv_eq_ediv_of_nonneg _ (by decide),IntWalk.i64_in _ om];omega
theorem Tn {p:Nat→Bool} {i j:Nat} (h:i<j) (hp:p ((i+j) / 2)=true):pA p i j=pA p i ((i+j) / 2):=by
 rw[pA,dif_pos h,if_pos hp]
theorem To {p:Nat→Bool} {i j:Nat} (h:i<j) (hp:p ((i+j) / 2)=false):pA p i j=pA p ((i+j) / 2+1) j:=by
 rw[pA,dif_pos h,if_neg (by rw[hp];exact Bool.false_ne_true)]
theorem Lj {p:Nat→Bool} {i j:Nat} (h:¬i<j):pA p i j=i:=by
 rw[pA,dif_neg h]
@[reducible] def stS (vs:List Vs) (d:Int):Ob:=[(0,W6 vs),(1,.cells [.ptr 0 0]),(2,.cells [.s (.int .u64 d)])]
theorem Ph (g:Nat) (vs:List Vs) (d:Int) (p:Nat→Bool) (n:Nat) (hn:n<1000000)
 (hg:∀k<n,VC E0 g 3 [.s (.int .i64 k),.ptr 1 0,.ptr 2 0] (stS vs d) (RR (.s (.bool (p k))) 3 (stS vs d))):
 VC E0 207 3 [.s (.int .i64 n),.dg g [] [.ptr 1 0,.ptr 2 0]] (stS vs d) (RR (.s (.int .i64 (pA p 0 n))) 3 (stS vs d)):=by
 refine en L0 Tryz.f207 ?_;refine⟨fun k f o c=>∃i j:Nat,i≤j∧j≤n∧pA p i j=pA p 0 n∧k=j - i∧c=3∧f=[(1,.dg g [] [.ptr 1 0,.ptr 2 0]),(5,.s (.int .i64 i)),(6,.s (.int .i64 j))]∧o=stS vs d,⟨n,?_⟩,?_⟩
 ·exact⟨[],[some 0,some 1,some 2],_,_,_,t3,⟨0,n,Nat.zero_le _,Nat.le_refl _,rfl,rfl,rfl,rfl,rfl⟩⟩
 ·rintro k f1 o1 c1 ⟨i,j,Qk,hj,hs,rfl,rfl,rfl,rfl⟩;refine wh ?_;refine sp ?_ ?_<;>intro h
  ·have h:i<j:=by exact Int.ofNat_lt.1 h
   have hm:=aa2 i j h om;have hc:=hg ((i+j) / 2) om;refine wh ?_;rw[hm];cases hp:p ((i+j) / 2)
   ·rw[hp]at hc;refine⟨[],[some 0,some 1,some 2],_,_,_,_,hc,t3,cw ?_⟩;rw[IntWalk.i64_in _ om];refine⟨j - ((i+j) / 2+1),?_,om⟩;exact⟨[],[some 0,some 1,some 2],_,_,_,t3,⟨(i+j) / 2+1,j,om,hj,(To h hp).symm.trans hs,rfl,rfl,rfl,rfl⟩⟩
   ·rw[hp]at hc;refine⟨[],[some 0,some 1,some 2],_,_,_,_,hc,t3,cw ?_⟩;refine⟨(i+j) / 2 - i,?_,om⟩;exact⟨[],[some 0,some 1,some 2],_,_,_,t3,⟨i,(i+j) / 2,om,by omega,(Tn h hp).symm.trans hs,rfl,rfl,rfl,rfl⟩⟩
  ·have h:¬i<j:=fun q=>h (Int.ofNat_lt.2 q);obtain rfl:i=j:=by omega
   rw[Lj h]at hs;refine wh ?_;refine⟨[],[some 0,some 1,some 2],_,_,_,tx ?_,rfl,rfl,rfl⟩;exact Lz.int (by rw[←hs])
theorem Xa {vs:List Vs} {k:Nat} (hk:k<vs.length):vs.getD k iL=vs[k]:=by simp[List.getD,hk]
theorem afD (vs:List Vs) (k:Nat) (hk:k<vs.length) (d:Int):VC E0 208 3 [.s (.int .i64 k),.ptr 1 0,.ptr 2 0] (stS vs d) (RR (.s (.bool (decide (d<(vs.getD k iL).seq)))) 3 (stS vs d)):=by
 rw[Xa hk];refine en L0 Tryz.f208 ?_;refine⟨by simp;omega,?_⟩;refine wh ?_;refine⟨l5 vs[k],by simp[hk],?_⟩;refine wh ?_;refine sp ?_ ?_<;>intro h
 all_goals
  refine wh ?_;refine⟨[],[some 0,some 1,some 2],_,_,_,tx ?_,rfl,rfl,rfl⟩;exact Lz.of (aX (by simp_all))
theorem FQ (p:Nat→Bool) (i j:Nat):i≤j→pA p i j≤j:=by
 induction i,j using pA.induct (p:=p)with
 |case1 i j h hp ih=>rw[Tn h hp];intro q;have:=ih om;omega
 |case2 i j h hp ih=>rw[To h (by simpa using hp)];intro q;have:=ih om;omega
 |case3 i j h=>rw[Lj h];exact id
theorem Pj (vs:List Vs) (d:Int) (hn:vs.length<1000000):VC E0 166 1 [.ptr 0 0,.s (.int .u64 d)] (IP vs) (RR (.s (.int .i64 (pB vs d))) 1 (IP vs)):=by
 have hle:=FQ (fun k=>decide (d<(vs.getD k iL).seq)) 0 vs.length (Nat.zero_le _);refine en L0 Tryz.f166 ?_;refine⟨[],[some 0],_,_,_,_,Nb vs,t3,cw ?_⟩;refine⟨[],[some 0,some 1,some 2],_,_,_,_,Ph _ vs d _ vs.length hn (fun k hk=>afD vs k hk d),t3,cw ?_⟩;refine⟨[],[some 0],_,_,_,tx ?_,rfl,rfl,rfl⟩;exact Lz.int (by rw[IntWalk.i64_in _ om];rfl)
theorem Tp (vs:List Vs) (d:Int) (hn:vs.length<1000000):VC E0 120 1 [.ptr 0 0,.s (.int .u64 d)] (IP vs) (RR (.s (.int .i64 (gQ vs d))) 1 (IP (vs.drop (gQ vs d)))):=by
 have hle:=FQ (fun k=>decide (d<(vs.getD k iL).seq)) 0 vs.length (Nat.zero_le _);refine en L0 Tryz.f120 ?_;refine⟨[],[some 0],_,_,_,_,Pj vs d hn,t3,cw ?_⟩;have hr:(if 0>pB vs d then 0 else pB vs d)=((gQ vs d:Nat):Int):=by unfold gQ;split<;>omega
 have bw:gQ vs d≤vs.length:=by unfold gQ pB;omega
 rw[hr];generalize gQ vs d=m at bw;refine sp ?_ ?_<;>intro h
 ·have h:0<m:=by exact Int.ofNat_lt.1 h
  refine wh ?_;refine⟨⟨om,by simp;omega,rfl,by simp⟩,?_⟩;refine wh ?_;refine⟨by simp;omega,?_⟩;refine wh ?_;refine⟨[],[some 0],_,_,_,tx ?_,rfl,rfl,rfl⟩;exact Lz.of (by rw[List.map_drop,Int.toNat_natCast,Int.toNat_natCast,List.take_length])
 ·have h:¬0<m:=fun q=>h (Int.ofNat_lt.2 q);obtain rfl:m=0:=by omega
  refine wh ?_;exact⟨[],[some 0],_,_,_,t3,rfl,rfl,rfl⟩
@[reducible] def yX (r:fw):List TV:=[.s (.int .i64 r.ao),.s (.int .u64 r.num),.s (.int .u64 r.seq),.s (.int .i64 r.code),.s (.int .u64 r.ey)]
@[reducible] def xf (t:gg):TO:=.cells [.s (.int .i64 t.r1.ao),.s (.int .u64 t.r1.num),.s (.int .u64 t.r1.seq),.s (.int .i64 t.r1.code),.s (.int .u64 t.r1.ey),.s (.int .i64 t.r2.ao),.s (.int .u64 t.r2.num),.s (.int .u64 t.r2.seq),.s (.int .i64 t.r2.code),.s (.int .u64 t.r2.ey),.s (.int .i64 t.r3.ao),.s (.int .u64 t.r3.num),.s (.int .u64 t.r3.seq),.s (.int .i64 t.r3.code),.s (.int .u64 t.r3.ey),.s (.int .i64 t.r4.ao),.s (.int .u64 t.r4.num),.s (.int .u64 t.r4.seq),.s (.int .i64 t.r4.code),.s (.int .u64 t.r4.ey),.s (.int .i64 t.r5.ao),.s (.int .u64 t.r5.num),.s (.int .u64 t.r5.seq),.s (.int .i64 t.r5.code),.s (.int .u64 t.r5.ey),.s (.int .i64 t.r6.ao),.s (.int .u64 t.r6.num),.s (.int .u64 t.r6.seq),.s (.int .i64 t.r6.code),.s (.int .u64 t.r6.ey)]
@[reducible] def qZ (t:gg):Ob:=[(0,xf t)]
theorem Nd:VC E0 88 0 [] [] (RR (.ptr 0 0) 1 (qZ iF)):=by
 refine en L0 Tryz.f88 ?_;exact⟨[],[some 0],_,_,_,t3,rfl,rfl,rfl⟩
def Pk (c:Int):Bool:=decide (1≤c∧c≤6)
theorem vS (c:Int):VC E0 144 0 [.s (.int .i64 c)] [] (RR (.s (.bool (Pk c))) 0 []):=by
 refine en L0 Tryz.f144 ?_
 repeat'(first|((first|(refine⟨fun h=>?_,fun h=>?_⟩)|(refine aU (fun h=>?_) (fun h=>?_))|(refine aT (fun h=>?_) (fun h=>?_)))<;>(conv=>whnf)))
 all_goals
  refine⟨[],[],_,_,_,tx ?_,rfl,rfl,rfl⟩;exact Lz.of (aX (by unfold Pk;simp at*;omega))
theorem afE (r:fw):VC E0 188 0 [.agg (yX r)] [] (RR (.s (.bool (Dv r))) 0 []):=by
 refine en L0 Tryz.f188 ?_;refine⟨[],[],_,_,_,_,vS r.ao,t3,?_⟩;rintro r o' c' ⟨rfl,rfl,rfl⟩;have dw:=True.intro;clear dw;cases hc:Pk r.ao
 ·refine wh ?_;refine⟨[],[],_,_,_,tx ?_,rfl,rfl,rfl⟩;exact Lz.of (aX (by unfold Pk at hc;unfold Dv;simp at hc ⊢;omega))
 ·have hc:1≤r.ao∧r.ao≤6:=by unfold Pk at hc;simpa using hc
  refine wh ?_
  repeat'(first|((first|(refine⟨fun h=>?_,fun h=>?_⟩)|(refine aU (fun h=>?_) (fun h=>?_))|(refine aT (fun h=>?_) (fun h=>?_)))<;>(conv=>whnf)))
  all_goals
   refine⟨[],[],_,_,_,tx ?_,rfl,rfl,rfl⟩;exact Lz.of (aX (by unfold Dv;simp at*;omega))
theorem FR {c:Int} (h:1≤c∧c≤6):c=1∨c=2∨c=3∨c=4∨c=5∨c=6:=by omega
theorem FT (t:gg) (c n:Int):VC E0 100 1 [.ptr 0 0,.s (.int .i64 c),.s (.int .u64 n)] (qZ t) (RR (.s (.int .i64 (di t c n))) 1 (qZ t)):=by
 by_cases hc:1≤c∧c≤6
 ·have hk:=vS c;rw[show Pk c=true from by unfold Pk;simpa using hc]at hk;rcases FR hc with rfl |rfl |rfl |rfl |rfl |rfl
  ·refine en L0 Tryz.f100 ?_;refine⟨[],[],_,_,_,_,hk,t3,cw ?_⟩;refine sp ?_ ?_<;>intro h0
   ·refine wh ?_;refine⟨[],[some 0],_,_,_,tx ?_,rfl,rfl,rfl⟩;exact Lz.int (by unfold di;rw[if_pos (.inr h0)])
   ·refine wh ?_;refine⟨show(0≤IntKind.i64.wrap (1 - 1))∧IntKind.i64.wrap (1 - 1)<(6:Int) by decide,?_⟩;refine wh ?_
    repeat'(first|((first|(refine⟨fun h=>?_,fun h=>?_⟩)|(refine aU (fun h=>?_) (fun h=>?_))|(refine aT (fun h=>?_) (fun h=>?_)))<;>(conv=>whnf)))
    all_goals
     refine⟨[],[some 0],_,_,_,tx ?_,rfl,rfl,rfl⟩;exact Lz.int (by unfold di gg.row;simp at*;omega)
  ·refine en L0 Tryz.f100 ?_;refine⟨[],[],_,_,_,_,hk,t3,cw ?_⟩;refine sp ?_ ?_<;>intro h0
   ·refine wh ?_;refine⟨[],[some 0],_,_,_,tx ?_,rfl,rfl,rfl⟩;exact Lz.int (by unfold di;rw[if_pos (.inr h0)])
   ·refine wh ?_;refine⟨show(0≤IntKind.i64.wrap (2 - 1))∧IntKind.i64.wrap (2 - 1)<(6:Int) by decide,?_⟩;refine wh ?_
    repeat'(first|((first|(refine⟨fun h=>?_,fun h=>?_⟩)|(refine aU (fun h=>?_) (fun h=>?_))|(refine aT (fun h=>?_) (fun h=>?_)))<;>(conv=>whnf)))
    all_goals
     refine⟨[],[some 0],_,_,_,tx ?_,rfl,rfl,rfl⟩;exact Lz.int (by unfold di gg.row;simp at*;omega)
  ·refine en L0 Tryz.f100 ?_;refine⟨[],[],_,_,_,_,hk,t3,cw ?_⟩;refine sp ?_ ?_<;>intro h0
   ·refine wh ?_;refine⟨[],[some 0],_,_,_,tx ?_,rfl,rfl,rfl⟩;exact Lz.int (by unfold di;rw[if_pos (.inr h0)])
   ·refine wh ?_;refine⟨show(0≤IntKind.i64.wrap (3 - 1))∧IntKind.i64.wrap (3 - 1)<(6:Int) by decide,?_⟩;refine wh ?_
    repeat'(first|((first|(refine⟨fun h=>?_,fun h=>?_⟩)|(refine aU (fun h=>?_) (fun h=>?_))|(refine aT (fun h=>?_) (fun h=>?_)))<;>(conv=>whnf)))
    all_goals
     refine⟨[],[some 0],_,_,_,tx ?_,rfl,rfl,rfl⟩;exact Lz.int (by unfold di gg.row;simp at*;omega)
  ·refine en L0 Tryz.f100 ?_;refine⟨[],[],_,_,_,_,hk,t3,cw ?_⟩;refine sp ?_ ?_<;>intro h0
   ·refine wh ?_;refine⟨[],[some 0],_,_,_,tx ?_,rfl,rfl,rfl⟩;exact Lz.int (by unfold di;rw[if_pos (.inr h0)])
   ·refine wh ?_;refine⟨show(0≤IntKind.i64.wrap (4 - 1))∧IntKind.i64.wrap (4 - 1)<(6:Int) by decide,?_⟩;refine wh ?_
    repeat'(first|((first|(refine⟨fun h=>?_,fun h=>?_⟩)|(refine aU (fun h=>?_) (fun h=>?_))|(refine aT (fun h=>?_) (fun h=>?_)))<;>(conv=>whnf)))
    all_goals
     refine⟨[],[some 0],_,_,_,tx ?_,rfl,rfl,rfl⟩;exact Lz.int (by unfold di gg.row;simp at*;omega)
  ·refine en L0 Tryz.f100 ?_;refine⟨[],[],_,_,_,_,hk,t3,cw ?_⟩;refine sp ?_ ?_<;>intro h0
   ·refine wh ?_;refine⟨[],[some 0],_,_,_,tx ?_,rfl,rfl,rfl⟩;exact Lz.int (by unfold di;rw[if_pos (.inr h0)])
   ·refine wh ?_;refine⟨show(0≤IntKind.i64.wrap (5 - 1))∧IntKind.i64.wrap (5 - 1)<(6:Int) by decide,?_⟩;refine wh ?_
    repeat'(first|((first|(refine⟨fun h=>?_,fun h=>?_⟩)|(refine aU (fun h=>?_) (fun h=>?_))|(refine aT (fun h=>?_) (fun h=>?_)))<;>(conv=>whnf)))
    all_goals
     refine⟨[],[some 0],_,_,_,tx ?_,rfl,rfl,rfl⟩;exact Lz.int (by unfold di gg.row;simp at*;omega)
  ·refine en L0 Tryz.f100 ?_;refine⟨[],[],_,_,_,_,hk,t3,cw ?_⟩;refine sp ?_ ?_<;>intro h0
   ·refine wh ?_;refine⟨[],[some 0],_,_,_,tx ?_,rfl,rfl,rfl⟩;exact Lz.int (by unfold di;rw[if_pos (.inr h0)])
   ·refine wh ?_;refine⟨show(0≤IntKind.i64.wrap (6 - 1))∧IntKind.i64.wrap (6 - 1)<(6:Int) by decide,?_⟩;refine wh ?_
    repeat'(first|((first|(refine⟨fun h=>?_,fun h=>?_⟩)|(refine aU (fun h=>?_) (fun h=>?_))|(refine aT (fun h=>?_) (fun h=>?_)))<;>(conv=>whnf)))
    all_goals
     refine⟨[],[some 0],_,_,_,tx ?_,rfl,rfl,rfl⟩;exact Lz.int (by unfold di gg.row;simp at*;omega)
 ·have hk:=vS c;rw[show Pk c=false from by unfold Pk;simpa using hc]at hk;refine en L0 Tryz.f100 ?_;refine⟨[],[],_,_,_,_,hk,t3,cw ?_⟩;refine⟨[],[some 0],_,_,_,tx ?_,rfl,rfl,rfl⟩;exact Lz.int (by unfold di;rw[if_pos (.inl hc)])
@[reducible] def Xb (q:fw×Bool):TV:=.cB [.agg (yX q.1),.s (.bool q.2)]
theorem Nf (t:gg) (c:Int):VC E0 101 1 [.ptr 0 0,.s (.int .i64 c)] (qZ t) (RR (Xb (iM t c)) 1 (qZ t)):=by
 by_cases hc:1≤c∧c≤6
 ·have hk:=vS c;rw[show Pk c=true from by unfold Pk;simpa using hc]at hk;rcases FR hc with rfl |rfl |rfl |rfl |rfl |rfl
  ·refine en L0 Tryz.f101 ?_;refine⟨[],[],_,_,_,_,hk,t3,cw ?_⟩;refine⟨by decide,?_⟩;refine wh ?_;refine sp ?_ ?_<;>intro h0
   ·rw[show iM t 1=(gd,false)from if_pos (.inr h0)];refine wh ?_;exact⟨[],[some 0],_,_,_,t3,rfl,rfl,rfl⟩
   ·rw[show iM t 1=(t.row 1,true)from if_neg (not_or.2 ⟨not_not_intro hc,h0⟩)];refine wh ?_;refine⟨show(0≤IntKind.i64.wrap (1 - 1))∧IntKind.i64.wrap (1 - 1)<(6:Int) by decide,?_⟩;refine wh ?_;exact⟨[],[some 0],_,_,_,t3,rfl,rfl,rfl⟩
  ·refine en L0 Tryz.f101 ?_;refine⟨[],[],_,_,_,_,hk,t3,cw ?_⟩;refine⟨by decide,?_⟩;refine wh ?_;refine sp ?_ ?_<;>intro h0
   ·rw[show iM t 2=(gd,false)from if_pos (.inr h0)];refine wh ?_;exact⟨[],[some 0],_,_,_,t3,rfl,rfl,rfl⟩
   ·rw[show iM t 2=(t.row 2,true)from if_neg (not_or.2 ⟨not_not_intro hc,h0⟩)];refine wh ?_;refine⟨show(0≤IntKind.i64.wrap (2 - 1))∧IntKind.i64.wrap (2 - 1)<(6:Int) by decide,?_⟩;refine wh ?_;exact⟨[],[some 0],_,_,_,t3,rfl,rfl,rfl⟩
  ·refine en L0 Tryz.f101 ?_;refine⟨[],[],_,_,_,_,hk,t3,cw ?_⟩;refine⟨by decide,?_⟩;refine wh ?_;refine sp ?_ ?_<;>intro h0
   ·rw[show iM t 3=(gd,false)from if_pos (.inr h0)];refine wh ?_;exact⟨[],[some 0],_,_,_,t3,rfl,rfl,rfl⟩
   ·rw[show iM t 3=(t.row 3,true)from if_neg (not_or.2 ⟨not_not_intro hc,h0⟩)];refine wh ?_;refine⟨show(0≤IntKind.i64.wrap (3 - 1))∧IntKind.i64.wrap (3 - 1)<(6:Int) by decide,?_⟩;refine wh ?_;exact⟨[],[some 0],_,_,_,t3,rfl,rfl,rfl⟩
  ·refine en L0 Tryz.f101 ?_;refine⟨[],[],_,_,_,_,hk,t3,cw ?_⟩;refine⟨by decide,?_⟩;refine wh ?_;refine sp ?_ ?_<;>intro h0
   ·rw[show iM t 4=(gd,false)from if_pos (.inr h0)];refine wh ?_;exact⟨[],[some 0],_,_,_,t3,rfl,rfl,rfl⟩
   ·rw[show iM t 4=(t.row 4,true)from if_neg (not_or.2 ⟨not_not_intro hc,h0⟩)];refine wh ?_;refine⟨show(0≤IntKind.i64.wrap (4 - 1))∧IntKind.i64.wrap (4 - 1)<(6:Int) by decide,?_⟩;refine wh ?_;exact⟨[],[some 0],_,_,_,t3,rfl,rfl,rfl⟩
  ·refine en L0 Tryz.f101 ?_;refine⟨[],[],_,_,_,_,hk,t3,cw ?_⟩;refine⟨by decide,?_⟩;refine wh ?_;refine sp ?_ ?_<;>intro h0
   ·rw[show iM t 5=(gd,false)from if_pos (.inr h0)];refine wh ?_;exact⟨[],[some 0],_,_,_,t3,rfl,rfl,rfl⟩
   ·rw[show iM t 5=(t.row 5,true)from if_neg (not_or.2 ⟨not_not_intro hc,h0⟩)];refine wh ?_;refine⟨show(0≤IntKind.i64.wrap (5 - 1))∧IntKind.i64.wrap (5 - 1)<(6:Int) by decide,?_⟩;refine wh ?_;exact⟨[],[some 0],_,_,_,t3,rfl,rfl,rfl⟩
  ·refine en L0 Tryz.f101 ?_;refine⟨[],[],_,_,_,_,hk,t3,cw ?_⟩;refine⟨by decide,?_⟩;refine wh ?_;refine sp ?_ ?_<;>intro h0
   ·rw[show iM t 6=(gd,false)from if_pos (.inr h0)];refine wh ?_;exact⟨[],[some 0],_,_,_,t3,rfl,rfl,rfl⟩
   ·rw[show iM t 6=(t.row 6,true)from if_neg (not_or.2 ⟨not_not_intro hc,h0⟩)];refine wh ?_;refine⟨show(0≤IntKind.i64.wrap (6 - 1))∧IntKind.i64.wrap (6 - 1)<(6:Int) by decide,?_⟩;refine wh ?_;exact⟨[],[some 0],_,_,_,t3,rfl,rfl,rfl⟩
 ·have hk:=vS c;rw[show Pk c=false from by unfold Pk;simpa using hc]at hk;rw[show iM t c=(gd,false)from if_pos (.inl hc)];refine en L0 Tryz.f101 ?_;refine⟨[],[],_,_,_,_,hk,t3,cw ?_⟩;exact⟨[],[some 0],_,_,_,t3,rfl,rfl,rfl⟩
theorem vT (t:gg) (r:fw):VC E0 149 1 [.ptr 0 0,.agg (yX r)] (qZ t) (RR (.s (.int .i64 (Cm t r))) 1 (qZ (KX t r))):=by
 have hf:=afE r;cases hb:Dv r
 ·rw[hb]at hf;have e1:Cm t r=1:=if_pos hb;rw[show KX t r=t from if_neg (by rw[e1];decide),e1];refine en L0 Tryz.f149 ?_;refine⟨[],[],_,_,_,_,hf,t3,cw ?_⟩;exact⟨[],[some 0],_,_,_,t3,rfl,rfl,rfl⟩
 ·rw[hb]at hf;have hj:=FT t r.ao r.num;by_cases h0:di t r.ao r.num=0
  ·have e1:Cm t r=0:=by unfold Cm;rw[if_neg (by rw[hb];decide),if_neg (by rw[h0];decide)]
   rw[show KX t r=t.put r.ao r from if_pos e1,e1];rw[h0]at hj;have hc:1≤r.ao∧r.ao≤6:=by unfold Dv at hb;simp at hb;omega
   obtain⟨c,rn,rs,rc,rv⟩:=r;rcases FR hc with rfl |rfl |rfl |rfl |rfl |rfl
   ·refine en L0 Tryz.f149 ?_;refine⟨[],[],_,_,_,_,hf,t3,cw ?_⟩;refine⟨[],[some 0],_,_,_,_,hj,t3,cw ?_⟩;refine sp ?_ ?_<;>intro h2
    ·exact absurd rfl h2
    ·refine wh ?_;refine⟨show(0≤IntKind.i64.wrap (1 - 1))∧IntKind.i64.wrap (1 - 1)<(6:Int) by decide,?_⟩;refine wh ?_;exact⟨[],[some 0],_,_,_,t3,rfl,rfl,rfl⟩
   ·refine en L0 Tryz.f149 ?_;refine⟨[],[],_,_,_,_,hf,t3,cw ?_⟩;refine⟨[],[some 0],_,_,_,_,hj,t3,cw ?_⟩;refine sp ?_ ?_<;>intro h2
    ·exact absurd rfl h2
    ·refine wh ?_;refine⟨show(0≤IntKind.i64.wrap (2 - 1))∧IntKind.i64.wrap (2 - 1)<(6:Int) by decide,?_⟩;refine wh ?_;exact⟨[],[some 0],_,_,_,t3,rfl,rfl,rfl⟩
   ·refine en L0 Tryz.f149 ?_;refine⟨[],[],_,_,_,_,hf,t3,cw ?_⟩;refine⟨[],[some 0],_,_,_,_,hj,t3,cw ?_⟩;refine sp ?_ ?_<;>intro h2
    ·exact absurd rfl h2
    ·refine wh ?_;refine⟨show(0≤IntKind.i64.wrap (3 - 1))∧IntKind.i64.wrap (3 - 1)<(6:Int) by decide,?_⟩;refine wh ?_;exact⟨[],[some 0],_,_,_,t3,rfl,rfl,rfl⟩
   ·refine en L0 Tryz.f149 ?_;refine⟨[],[],_,_,_,_,hf,t3,cw ?_⟩;refine⟨[],[some 0],_,_,_,_,hj,t3,cw ?_⟩;refine sp ?_ ?_<;>intro h2
    ·exact absurd rfl h2
    ·refine wh ?_;refine⟨show(0≤IntKind.i64.wrap (4 - 1))∧IntKind.i64.wrap (4 - 1)<(6:Int) by decide,?_⟩;refine wh ?_;exact⟨[],[some 0],_,_,_,t3,rfl,rfl,rfl⟩
   ·refine en L0 Tryz.f149 ?_;refine⟨[],[],_,_,_,_,hf,t3,cw ?_⟩;refine⟨[],[some 0],_,_,_,_,hj,t3,cw ?_⟩;refine sp ?_ ?_<;>intro h2
    ·exact absurd rfl h2
    ·refine wh ?_;refine⟨show(0≤IntKind.i64.wrap (5 - 1))∧IntKind.i64.wrap (5 - 1)<(6:Int) by decide,?_⟩;refine wh ?_;exact⟨[],[some 0],_,_,_,t3,rfl,rfl,rfl⟩
   ·refine en L0 Tryz.f149 ?_;refine⟨[],[],_,_,_,_,hf,t3,cw ?_⟩;refine⟨[],[some 0],_,_,_,_,hj,t3,cw ?_⟩;refine sp ?_ ?_<;>intro h2
    ·exact absurd rfl h2
    ·refine wh ?_;refine⟨show(0≤IntKind.i64.wrap (6 - 1))∧IntKind.i64.wrap (6 - 1)<(6:Int) by decide,?_⟩;refine wh ?_;exact⟨[],[some 0],_,_,_,t3,rfl,rfl,rfl⟩
  ·have e1:Cm t r=12:=by unfold Cm;rw[if_neg (by rw[hb];decide),if_pos h0]
   rw[show KX t r=t from if_neg (by rw[e1];decide),e1];refine en L0 Tryz.f149 ?_;refine⟨[],[],_,_,_,_,hf,t3,cw ?_⟩;refine⟨[],[some 0],_,_,_,_,hj,t3,cw ?_⟩;refine sp ?_ ?_<;>intro h2
   ·refine wh ?_;exact⟨[],[some 0],_,_,_,t3,rfl,rfl,rfl⟩
   ·exact absurd h0 h2
@[reducible] def FU:TV:=.s (.pointer none)
@[reducible] def i0:TV:=.s (.int .i64 0)
@[reducible] def u0:TV:=.s (.int .u64 0)
@[reducible] def zV:TV:=.agg (l5 iL)
@[reducible] def boxes (d:Int):Ob:=[(1,.cells [.s (.int .u64 d)]),(0,.cells [FU])]
theorem IQ:VC E0 114 0 [FU] [] (RR i0 0 []):=by
 refine en L0 Tryz.f114 ?_;exact⟨[],[],_,_,_,t3,rfl,rfl,rfl⟩
theorem Xc (i:Int):VC E0 113 0 [FU,.s (.int .i64 i)] [] (RR zV 0 []):=by
 refine en L0 Tryz.f113 ?_;exact⟨[],[],_,_,_,t3,rfl,rfl,rfl⟩
theorem Pl:VC E0 79 0 [FU] [] (RR zV 0 []):=by
 refine en L0 Tryz.f79 ?_;refine⟨[],[],_,_,_,_,IQ,t3,cw ?_⟩;refine⟨[],[],_,_,_,_,Xc (-1),t3,cw ?_⟩;exact⟨[],[],_,_,_,t3,rfl,rfl,rfl⟩
theorem Lk (g:Nat) (d:Int):VC E0 207 2 [i0,.dg g [] [.ptr 0 0,.ptr 1 0]] (boxes d) (RR i0 2 (boxes d)):=by
 refine en L0 Tryz.f207 ?_;refine⟨fun k f o c=>k=0∧c=2∧f=[(1,.dg g [] [.ptr 0 0,.ptr 1 0]),(5,i0),(6,i0)]∧o=boxes d,⟨0,?_⟩,?_⟩
 ·exact⟨[],[some 0,some 1],_,_,_,t3,⟨rfl,rfl,rfl,rfl⟩⟩
 ·rintro k f1 o1 c1 ⟨rfl,rfl,rfl,rfl⟩;refine wh ?_
  repeat((first|(refine⟨fun h_=>?_,fun h_=>?_⟩)|(refine aU (fun h_=>?_) (fun h_=>?_))|(refine aT (fun h_=>?_) (fun h_=>?_)))<;>first|(exfalso;revert h_;decide;done)|(exact absurd rfl h_)|(have dw:=True.intro;clear dw;(conv=>whnf)))
  exact⟨[],[some 0,some 1],_,_,_,t3,rfl,rfl,rfl⟩
theorem Ll (d:Int):VC E0 166 0 [FU,.s (.int .u64 d)] [] (RR (.s (.int .i64 (-1))) 0 []):=by
 refine en L0 Tryz.f166 ?_;refine⟨[],[],_,_,_,_,IQ,t3,cw ?_⟩;refine⟨[],[some 0,some 1],_,_,_,_,Lk _ d,t3,cw ?_⟩;exact⟨[],[],_,_,_,t3,rfl,rfl,rfl⟩
theorem Pm (d:Int):VC E0 120 0 [FU,.s (.int .u64 d)] [] (RR i0 0 []):=by
 refine en L0 Tryz.f120 ?_;refine⟨[],[],_,_,_,_,Ll d,t3,cw ?_⟩;refine sp ?_ ?_<;>intro h
 ·exact absurd h (by decide)
 ·refine wh ?_;exact⟨[],[],_,_,_,t3,rfl,rfl,rfl⟩
@[reducible] def oK (vs:List Vs):TV:=.own (W6 vs)
@[reducible] def vU (bs:List (Int×List Vs)):TO:=.fp (jB .u32) (bs.map (pz .u32 oK)) []
@[reducible] def Xd (s:e7):TO:=.cells [.s (.int .u64 s.e),.mp 1,.own (xf s.t)]
@[reducible] def sK (s:e7):Ob:=[(0,Xd s),(1,vU s.bs)]
@[reducible] def ajy (s:e7) (k:Int) (vs:List Vs):Ob:=[(0,.cells [.s (.int .u64 s.e),.mp 1,.own (xf s.t)]),(1,.fp (jB .u32) (s.bs.map (pz .u32 oK)) [(.int .u32 k,.ptr 2 0)]),(2,W6 vs)]
theorem IS (s:e7) (k:Int) (h:eS s.bs k=none):VC E0 78 2 [.ptr 0 0,.s (.int .u32 k)] (sK s) (RR FU 2 (sK s)):=by
 refine en L0 Tryz.f78 ?_;refine⟨none,by rw[vM,h];rfl,?_⟩;refine wh ?_;exact⟨[],[some 0,some 1],_,_,_,t3,rfl,rfl,rfl⟩
theorem IT (s:e7) (k:Int) (vs:List Vs) (h:eS s.bs k=some vs):VC E0 78 2 [.ptr 0 0,.s (.int .u32 k)] (sK s) (RR (.ptr 2 0) 3 (ajy s k vs)):=by
 refine en L0 Tryz.f78 ?_;refine⟨some (oK vs),by rw[vM,h];rfl,?_⟩;refine wh ?_;exact⟨[],[some 0,some 1,some 2],_,_,_,t3,rfl,rfl,rfl⟩
theorem Pn {bs:List (Int×List Vs)} {k:Int} {vs:List Vs} (h:eS bs k=some vs):qT bs k vs=bs:=by
 induction bs with
 |nil=>cases h
 |cons e es ih=>
  unfold eS at h;unfold qT;split at h
  ·rename_i he;cases h;rw[if_pos he,he]
  ·rename_i he;rw[if_neg he,ih h]
theorem Xe {bs:List (Int×List Vs)} {k:Int} {vs:List Vs} (h:eS bs k=some vs):Od (bs.map (pz .u32 oK)) [(.int .u32 k,oK vs)]=bs.map (pz .u32 oK):=by
 show dU (bs.map (pz .u32 oK)) (.int .u32 k) (oK vs)=_;rw[KW,Pn h]
theorem Xf (i:Int):Vm [] i=iL:=by unfold Vm;split<;>simp
structure zr (s:e7):Prop where
 v:∀k vs,eS s.bs k=some vs→(∀v∈vs,Pg v)∧vs.length<100000
theorem re {s:e7} {k:Int} (h:eS s.bs k=none):yW s k=[]:=by unfold yW;rw[h];rfl
theorem rk {s:e7} {k:Int} {vs:List Vs} (h:eS s.bs k=some vs):yW s k=vs:=by unfold yW;rw[h];rfl
theorem Ng (s:e7) (k:Int) (H:zr s):VC E0 38 2 [.ptr 0 0,.s (.int .u32 k)] (sK s) (RR (.agg (l5 (jH (yW s k)))) 2 (sK s)):=by
 cases h:eS s.bs k with
 |none=>
  rw[re h];refine en L0 Tryz.f38 ?_;refine⟨[],[some 0,some 1],_,_,_,_,IS s k h,t3,cw ?_⟩;refine⟨[],[],_,_,_,_,Pl,t3,cw ?_⟩;exact⟨[],[some 0,some 1],_,_,_,t3,rfl,rfl,rfl⟩
 |some vs=>
  rw[rk h];obtain⟨hv,hn⟩:=H.v k vs h;refine en L0 Tryz.f38 ?_;refine⟨[],[some 0,some 1],_,_,_,_,IT s k vs h,t3,cw ?_⟩;refine⟨[],[some 5],_,_,_,_,Tm vs hv om,t3,cw ?_⟩;refine⟨[],[some 0,some 1],_,_,_,⟨tq,.cons (.cells tq) (.cons (.fp (oQ:=[(_,oK vs)]) .one (Lw.of (Xe h)) (.m1 (by rfl) tq)) .nil),by rfl⟩,⟨rfl,rfl,rfl⟩⟩
theorem Nh:VC E0 48 0 [] [] (RR (.ptr 0 0) 2 (sK ⟨0,[],iF⟩)):=by
 refine en L0 Tryz.f48 ?_;refine⟨[],[],_,_,_,_,Nd,t3,cw ?_⟩;exact⟨[],[some 2,some 0],_,_,_,t3,rfl,rfl,rfl⟩
theorem aa4 (s:e7):VC E0 32 2 [.ptr 0 0] (sK s) (RR (.s (.int .u64 s.e)) 2 (sK s)):=by
 refine en L0 Tryz.f32 ?_;exact⟨[],[some 0,some 1],_,_,_,t3,rfl,rfl,rfl⟩
theorem Po (s:e7) (c n:Int):VC E0 58 2 [.ptr 0 0,.s (.int .i64 c),.s (.int .u64 n)] (sK s) (RR (.s (.int .i64 (di s.t c n))) 2 (sK s)):=by
 refine en L0 Tryz.f58 ?_;refine⟨[],[some 2],_,_,_,_,FT s.t c n,t3,cw ?_⟩;exact⟨[],[some 0,some 1],_,_,_,t3,rfl,rfl,rfl⟩
theorem Xg (s:e7) (c:Int):VC E0 59 2 [.ptr 0 0,.s (.int .i64 c)] (sK s) (RR (Xb (iM s.t c)) 2 (sK s)):=by
 refine en L0 Tryz.f59 ?_;refine⟨[],[some 3],_,_,_,_,Nf s.t c,t3,cw ?_⟩;exact⟨[],[some 0,some 1],_,_,_,t3,rfl,rfl,rfl⟩
theorem Tq (bs:List (Int×List Vs)):VC E0 77 1 [.mp 0] [(0,vU bs)] (RR (.dg 112 [] [.ptr 1 0]) 2 [(0,vU bs),(1,.cells [.mp 0])]):=by
 refine en L0 Tryz.f77 ?_;exact⟨[],[some 0,some 1],_,_,_,t3,rfl,rfl,rfl⟩
theorem IU (s:e7) (hn:s.bs.length<13):VC E0 37 2 [.ptr 0 0] (sK s) (RR (.sl 1 ((dy (iT s.bs)).map jS) false) 2 (sK s)):=by
 have hk:MU (iT s.bs) (vU s.bs):=⟨rfl,by
  rw[Ws]⟩
 refine en L0 Tryz.f37 ?_;refine⟨[],[some 1],_,_,_,_,Tq s.bs,t3,cw ?_⟩;refine⟨[],[some 1,some 3],_,_,_,_,VC.Bk hk (by rw[List.length_map];exact hn),t3,cw ?_⟩;exact⟨[],[some 0,some 1],_,_,_,t3,rfl,rfl,rfl⟩
theorem Lm (bs:List (Int×List Vs)) (k:Int) (vs:List Vs):Od (bs.map (pz .u32 oK)) [(.int .u32 k,oK vs)]=(qT bs k vs).map (pz .u32 oK):=by
 show dU (bs.map (pz .u32 oK)) (.int .u32 k) (oK vs)=_;rw[KW]
theorem FV (s:e7) (k:Int) (v:Vs) (hv:0≤v.ey∧v.ey≤18446744073709551615) (H:zr s):VC E0 147 2 [.ptr 0 0,.s (.int .u32 k),.agg (l5 v)] (sK s) (RR (.s (.int .i64 (qU (yW s k) v))) 2 (sK (Iu s k v))):=by
 cases h:eS s.bs k with
 |none=>
  unfold Iu;rw[re h];refine en L0 Tryz.f147 ?_;refine⟨none,by rw[vM,h];rfl,?_⟩;refine wh ?_;refine⟨[],[],_,_,_,_,W7,t3,cw ?_⟩;refine⟨[],[some 3],_,_,_,_,Nc [] v hv (by decide),t3,cw ?_⟩;refine⟨[],[some 0,some 1],_,_,_,⟨tq,.cons (.cells tq) (.cons (.fp (oQ:=[(_,oK (p8 [] v))]) .one (Lw.of (Lm _ _ _)) (.m1 (by rfl) tq)) .nil),by rfl⟩,⟨rfl,rfl,rfl⟩⟩
 |some vs=>
  unfold Iu;rw[rk h];obtain⟨_,hn⟩:=H.v k vs h;refine en L0 Tryz.f147 ?_;refine⟨some (oK vs),by rw[vM,h];rfl,?_⟩;refine wh ?_;refine⟨[],[some 3],_,_,_,_,Nc vs v hv hn,t3,cw ?_⟩;refine⟨[],[some 0,some 1],_,_,_,⟨tq,.cons (.cells tq) (.cons (.fp (oQ:=[(_,oK (p8 vs v))]) .one (Lw.of (Lm _ _ _)) (.m1 (by rfl) tq)) .nil),by rfl⟩,⟨rfl,rfl,rfl⟩⟩
@[reducible] def aa5 (q:fw×Int):TV:=.cB [.agg (yX q.1),.s (.int .i64 q.2)]
theorem Ni {u:dx} (h:uz u=0):u.seq≠0∧u.data.length≤2048:=by
 unfold uz okU at h;split at h
 ·split at h
  ·omega
  ·split at h
   ·rename_i h2;simp at h2;omega
   ·omega
 ·omega
theorem Ln {u:dx} {ey:Int} {b:Bool} (h:0≤ey∧ey≤18446744073709551615):0≤(Cl u ey b).2.1∧(Cl u ey b).2.1≤18446744073709551615:=by
 unfold Cl;split
 ·split
  ·exact h
  ·split
   ·exact h
   ·simp;omega
 ·exact h
theorem IV {vs:List Vs} (hv:∀v∈vs,Pg v):0≤(jH vs).ey∧(jH vs).ey≤18446744073709551615:=by
 rcases Bq vs with rfl |⟨ws,w,rfl⟩
 ·exact⟨by decide,by decide⟩
 ·rw[iW];exact(hv w (by simp)).ey
theorem Lo {s:e7} (H:zr s) (k:Int):(∀v∈yW s k,Pg v)∧(yW s k).length<100000:=by
 cases h:eS s.bs k with
 |none=>rw[re h];exact⟨by simp,by decide⟩
 |some vs=>rw[rk h];exact H.v k vs h
theorem Ts {s:e7} (h:(((s.bs.map (pz .u32 oK)).length:Nat):Int)<192):vN s=true:=decide_eq_true (by rw[List.length_map]at h;omega)
theorem Tt {s:e7} (h:vN s=true):(((s.bs.map (pz .u32 oK)).length:Nat):Int)<192:=by
 have:s.bs.length<192:=of_decide_eq_true h;rw[List.length_map];omega
theorem Tu (s:e7) (u:dx) (H:zr s) (hu:Qv u):VC E0 102 2 [.ptr 0 0,.agg (cD u)] (sK s) (RR (aa5 (qV s u).1) 2 (sK (qV s u).2)):=by
 have hs:=hu.seq;unfold qV;by_cases h0:uz u=0
 ·rw[if_neg (not_not_intro h0)];have hc:=Bp u;rw[h0]at hc;obtain⟨B4,hdl⟩:=Ni h0;have hw:IntKind.u64.wrap (u.seq - 1)=u.seq - 1:=IntWalk.u64_in _ om;by_cases h1:u.seq - 1=s.e
  ·rw[if_neg (not_not_intro h1)];have hj:=FT s.t u.ao u.num;have hl:=Ng {s with e:=u.seq} u.key ⟨H.v⟩;have hlr:=IV (Lo H u.key).1;have ho:=Lg u (jH (yW s u.key)).ey (vN s) hlr;refine en L0 Tryz.f102 ?_;refine⟨[],[],_,_,_,_,hc,t3,cw ?_⟩;refine sp ?_ ?_<;>intro h2
   ·exact absurd rfl h2
   ·refine wh ?_;refine sp ?_ ?_<;>intro h3
    ·have h3:IntKind.u64.wrap (u.seq - 1)≠s.e:=h3;rw[hw]at h3;exact absurd h1 h3
    ·refine wh ?_;refine⟨[],[some 4],_,_,_,_,hj,t3,cw ?_⟩;refine sp ?_ ?_<;>intro h4
     ·have h4:di s.t u.ao u.num≠0:=h4;rw[if_pos h4];refine wh ?_;exact⟨[],[some 0,some 1],_,_,_,t3,rfl,rfl,rfl⟩
     ·have h4:¬di s.t u.ao u.num≠0:=h4;rw[if_neg h4];refine wh ?_;refine⟨[],[some 0,some 1],_,_,_,_,hl,t3,cw ?_⟩;rcases hq:Sy s u with⟨qc,qv,qb⟩;rw[show Cl u (jH (yW s u.key)).ey (vN s)=(qc,qv,qb)from hq]at ho;have hqv:0≤qv∧qv≤18446744073709551615:=by
       have:=Ln (u:=u) (b:=vN s) hlr;rw[show Cl u (jH (yW s u.key)).ey (vN s)=(qc,qv,qb)from hq]at this;exact this
      have ja:SE s u=⟨u.ao,u.num,u.seq,qc,qv⟩:=by unfold SE;rw[hq]
      have lM:wrote s u=if qb=true then Iu {s with e:=u.seq} u.key ⟨qv,u.seq,u.data⟩else {s with e:=u.seq}:=by unfold wrote;rw[hq]
      rw[ja,lM];cases qb
      ·rw[if_neg Bool.false_ne_true];cases hr:vN s
       ·rw[hr]at ho;refine sp ?_ ?_<;>intro h5
        ·exact absurd ((Ts h5).symm.trans hr) (by decide)
        ·refine wh ?_;refine⟨[],[],_,_,_,_,ho,t3,cw ?_⟩;refine⟨[],[some 9],_,_,_,_,vT s.t ⟨u.ao,u.num,u.seq,qc,qv⟩,t3,cw ?_⟩;exact⟨[],[some 0,some 1],_,_,_,t3,rfl,rfl,rfl⟩
       ·rw[hr]at ho;refine sp ?_ ?_<;>intro h5
        ·refine wh ?_;refine⟨[],[],_,_,_,_,ho,t3,cw ?_⟩;refine⟨[],[some 9],_,_,_,_,vT s.t ⟨u.ao,u.num,u.seq,qc,qv⟩,t3,cw ?_⟩;exact⟨[],[some 0,some 1],_,_,_,t3,rfl,rfl,rfl⟩
        ·exact absurd (Tt hr) h5
      ·rw[if_pos rfl];cases hr:vN s
       ·rw[hr]at ho;refine sp ?_ ?_<;>intro h5
        ·exact absurd ((Ts h5).symm.trans hr) (by decide)
        ·refine wh ?_;refine⟨[],[],_,_,_,_,ho,t3,cw ?_⟩;refine⟨[],[],_,_,_,_,Na u qv om,t3,cw ?_⟩;refine⟨[],[some 0,some 1],_,_,_,_,FV {s with e:=u.seq} u.key ⟨qv,u.seq,u.data⟩ hqv ⟨H.v⟩,t3,cw ?_⟩;refine⟨[],[some 11],_,_,_,_,vT s.t ⟨u.ao,u.num,u.seq,qc,qv⟩,t3,cw ?_⟩;exact⟨[],[some 0,some 1],_,_,_,t3,rfl,rfl,rfl⟩
       ·rw[hr]at ho;refine sp ?_ ?_<;>intro h5
        ·refine wh ?_;refine⟨[],[],_,_,_,_,ho,t3,cw ?_⟩;refine⟨[],[],_,_,_,_,Na u qv om,t3,cw ?_⟩;refine⟨[],[some 0,some 1],_,_,_,_,FV {s with e:=u.seq} u.key ⟨qv,u.seq,u.data⟩ hqv ⟨H.v⟩,t3,cw ?_⟩;refine⟨[],[some 11],_,_,_,_,vT s.t ⟨u.ao,u.num,u.seq,qc,qv⟩,t3,cw ?_⟩;exact⟨[],[some 0,some 1],_,_,_,t3,rfl,rfl,rfl⟩
        ·exact absurd (Tt hr) h5
  ·rw[if_pos h1];refine en L0 Tryz.f102 ?_;refine⟨[],[],_,_,_,_,hc,t3,cw ?_⟩;refine sp ?_ ?_<;>intro h2
   ·exact absurd rfl h2
   ·refine wh ?_;refine sp ?_ ?_<;>intro h3
    ·refine wh ?_;exact⟨[],[some 0,some 1],_,_,_,t3,rfl,rfl,rfl⟩
    ·have h3:¬IntKind.u64.wrap (u.seq - 1)≠s.e:=h3;rw[hw]at h3;exact absurd h1 h3
 ·rw[if_pos h0];have hc:=Bp u;refine en L0 Tryz.f102 ?_;refine⟨[],[],_,_,_,_,hc,t3,cw ?_⟩;refine sp ?_ ?_<;>intro h2
  ·refine wh ?_;exact⟨[],[some 0,some 1],_,_,_,t3,rfl,rfl,rfl⟩
  ·exact absurd h0 h2
@[reducible] def usA (l:List dx):TO:=.arr 7 true (l.map cD)
theorem rq (after:Int):∀(l:List dx) (left:Int) (u:dx),cg after (l++[u]) left=cg after l left++(if u.seq≤after∨left - (cg after l left).length<1 then []else [u])
 |[],left,u=>by
  show cg after [u] left=[]++_;unfold cg;simp only[cg,List.length_nil,List.nil_append];split<;>split<;>first|rfl |(rename_i h1 h2;exact absurd (by simpa using h1) (by simpa using h2))|(rename_i h1 h2;exact absurd (by simpa using h2) (by simpa using h1))
 |x::l,left,u=>by
  show cg after (x::(l++[u])) left=cg after (x::l) left++_;unfold cg;split
  ·exact rq after l left u
  ·rw[rq after l (left - 1) u,List.cons_append];have:left - 1 - ((cg after l (left - 1)).length:Int)=left - (((x::cg after l (left - 1)).length:Nat):Int):=by simp;omega
   rw[this]
theorem pF (after:Int):∀(l:List dx) (left:Int),(cg after l left).length≤l.length
 |[],_=>Nat.le_refl _
 |u::l,left=>by
  unfold cg;split
  ·have:=pF after l left;simp;omega
  ·have:=pF after l (left - 1);simp;omega
theorem ru (after:Int):∀(l:List dx) (left:Int),0≤left→((cg after l left).length:Int)≤left
 |[],left,h=>by simpa[cg]using h
 |u::l,left,h=>by
  unfold cg;split
  ·exact ru after l left h
  ·have:=ru after l (left - 1) om;simp;omega
@[reducible] def Nj (n:Int):TO:=.cells [.s (.int .u64 n)]
@[reducible] def c1I (n:Int):TO:=.cells [.s (.int .i64 n)]
theorem Pp (after left:Int) (u:dx) (h:u.seq≤after∨left<1):VC E0 160 2 [.agg (cD u),.ptr 0 0,.ptr 1 0] [(0,Nj after),(1,c1I left)] (RR (.s (.bool false)) 2 [(0,Nj after),(1,c1I left)]):=by
 refine en L0 Tryz.f160 ?_;refine sp ?_ ?_<;>intro h1
 ·refine wh ?_;exact⟨[],[some 0,some 1],_,_,_,t3,rfl,rfl,rfl⟩
 ·refine wh ?_;refine sp ?_ ?_<;>intro h2
  ·refine wh ?_;exact⟨[],[some 0,some 1],_,_,_,t3,rfl,rfl,rfl⟩
  ·exact absurd h (by intro q;rcases q with q|q;exact h1 q;exact h2 q)
theorem Lp (after left:Int) (u:dx) (h:¬(u.seq≤after∨left<1)) (hl:left<1000000):VC E0 160 2 [.agg (cD u),.ptr 0 0,.ptr 1 0] [(0,Nj after),(1,c1I left)] (RR (.s (.bool true)) 2 [(0,Nj after),(1,c1I (left - 1))]):=by
 have hw:IntKind.i64.wrap (left - 1)=left - 1:=IntWalk.i64_in _ om;refine en L0 Tryz.f160 ?_;refine sp ?_ ?_<;>intro h1
 ·exact absurd (.inl h1) h
 ·refine wh ?_;refine sp ?_ ?_<;>intro h2
  ·exact absurd (.inr h2) h
  ·refine wh ?_;rw[hw];exact⟨[],[some 0,some 1],_,_,_,t3,rfl,rfl,rfl⟩
@[reducible] def afF (a b:Nat):TV:=.dg 160 [] [.ptr a 0,.ptr b 0]
theorem Tv (l:List dx) (after left:Int) (hl:l.length<100000) (h0:0≤left∧left<100000) (hd:∀u∈l,u.data.length<1000000):VC E0 104 3 [.tk 0,afF 1 2] [(0,usA l),(1,Nj after),(2,c1I left)]
 (RR (.sl 7 ((cg after l left).map cD) false) 3 [(0,usA l),(1,Nj after),(2,c1I (left - (cg after l left).length))]):=by
 refine en L0 Tryz.f104 ?_;refine⟨fun k f o c=>∃i:Nat,i≤l.length∧k=l.length - i∧c=4∧f=[(1,afF 1 2),(5,.tk 3),(8,.tk 0),(9,.s (.int .i64 l.length)),(10,.s (.int .i64 i))]∧o=[(0,usA l),(1,Nj after),(2,c1I (left - (cg after (l.take i) left).length)),(3,.arr 7 true ((cg after (l.take i) left).map cD))],⟨l.length,?_⟩,?_⟩
 ·refine⟨[],[some 0,some 1,some 2,none],?_⟩
  iterate 3 constructor
  refine⟨⟨?_,?_,?_⟩,⟨0,Nat.zero_le _,rfl,rfl,rfl,rfl⟩⟩
  all_goals(repeat' first|exact LF|constructor)
  ·exact Lz.int (by rw[List.length_map])
  ·exact Lz.int (by simp[cg])
 ·rintro k f1 o1 c1 ⟨i,hi,rfl,rfl,rfl,rfl⟩;refine wh ?_;refine sp ?_ ?_<;>intro h
  ·have h:i<l.length:=by have h:(i:Int)<l.length:=h
                         omega
   have hs:cg after (l.take (i+1)) left=cg after (l.take i) left++(if l[i].seq≤after∨left - (cg after (l.take i) left).length<1 then []else [l[i]]):=by rw[jT l i h,rq]
   have QF:=pF after (l.take i) left;have eF:=ru after (l.take i) left h0.1;rw[List.length_take]at QF;have Y6:=hd _ (List.getElem_mem h);have BU:IntKind.i64.wrap ((i:Int)+1)=((i+1:Nat):Int):=IntWalk.i64_in _ om;refine wh ?_;refine⟨⟨om,by rw[List.length_map];omega⟩,?_⟩;refine wh ?_;refine⟨cD l[i],by simp[h],?_⟩;refine wh ?_;by_cases hq:l[i].seq≤after∨left - (cg after (l.take i) left).length<1
   ·rw[if_pos hq,List.append_nil]at hs;refine⟨[],[some 1,some 2],_,_,_,_,Pp after _ l[i] hq,t3,cw ?_⟩;refine⟨l.length - (i+1),?_,om⟩;rw[BU,←hs];exact⟨[],[some 0,some 1,some 2,some 3],_,_,_,t3,⟨i+1,h,rfl,rfl,rfl,rfl⟩⟩
   ·rw[if_neg hq]at hs;refine⟨[],[some 1,some 2],_,_,_,_,Lp after _ l[i] hq om,t3,cw ?_⟩;refine⟨[],[],_,_,_,_,l6 l[i].data Y6,t3,cw ?_⟩;refine⟨by simp;omega,?_⟩;refine wh ?_;refine⟨l.length - (i+1),?_,om⟩;rw[BU];refine⟨[],[some 0,some 1,some 2,some 8],?_⟩
    iterate 3 constructor
    refine⟨⟨?_,?_,?_⟩,⟨i+1,h,rfl,rfl,rfl,rfl⟩⟩
    all_goals(repeat' first|exact LF|constructor)
    all_goals first|exact Lz.int (by rw[hs,List.length_append];simp;omega)|exact Lz.of (by rw[hs,List.map_append];rfl)
  ·obtain rfl:i=l.length:=by have h:¬(i:Int)<l.length:=h;omega
   rw[List.take_length];refine wh ?_;exact⟨[3],[some 0,some 1,some 2],_,_,_,t3,rfl,rfl,rfl⟩
theorem IW (l:List dx) (after left:Int) (hl:l.length<100000) (h0:0≤left∧left<100000) (hd:∀u∈l,u.data.length<1000000):VC E0 109 1 [.tk 0,.s (.int .u64 after),.s (.int .i64 left)] [(0,usA l)]
 (RR (.sl 7 ((cg after l left).map cD) false) 1 [(0,usA l)]):=by
 refine en L0 Tryz.f109 ?_;refine⟨[],[some 0,some 1,some 2],_,_,_,_,Tv l after left hl h0 hd,t3,cw ?_⟩;exact⟨[],[some 0],_,_,_,t3,rfl,rfl,rfl⟩
theorem Tw (u:dx):VC E0 189 0 [.agg (cD u)] [] (RR (.s (.bool true)) 0 []):=by
 refine en L0 Tryz.f189 ?_;exact⟨[],[],_,_,_,t3,rfl,rfl,rfl⟩
theorem Ty (u:dx) (hd:u.data.length≤2048):VC E0 104 0 [.sl 7 [cD u] false,.dg 189 [] []] [] (RR (.sl 7 [cD u] false) 0 []):=by
 refine VC.cQ L0 (show E0.func 104=some Tryz.f104 by kernel_rfl) (fun _ _=>rfl) rfl rfl [999999] ?_;refine wh ?_
 repeat((first|(refine⟨fun h_=>?_,fun h_=>?_⟩)|(refine aU (fun h_=>?_) (fun h_=>?_))|(refine aT (fun h_=>?_) (fun h_=>?_)))<;>first|(exfalso;revert h_;decide;done)|(exfalso;revert h_;simp;done)|(have dw:=True.intro;clear dw;(conv=>whnf)))
 refine⟨cD u,⟨by decide,rfl⟩,?_⟩;refine wh ?_;refine⟨[],[],_,_,_,_,Tw u,t3,cw ?_⟩;refine⟨[],[],_,_,_,_,l6 u.data om,t3,cw ?_⟩;refine⟨by simp,?_⟩;refine wh ?_;rw[wr0]
 repeat((first|(refine⟨fun h_=>?_,fun h_=>?_⟩)|(refine aU (fun h_=>?_) (fun h_=>?_))|(refine aT (fun h_=>?_) (fun h_=>?_)))<;>first|(exfalso;revert h_;decide;done)|(exfalso;revert h_;simp;done)|(have dw:=True.intro;clear dw;(conv=>whnf)))
 exact⟨[2],[],_,_,_,t3,rfl,rfl,rfl⟩
theorem Tz (u:dx) (hd:u.data.length≤2048):VC E0 150 0 [.sl 7 [cD u] false] [] (RR (.sl 7 [cD u] false) 0 []):=by
 refine en L0 Tryz.f150 ?_;refine⟨[],[],_,_,_,_,Ty u hd,t3,cw ?_⟩;exact⟨[],[],_,_,_,t3,rfl,rfl,rfl⟩
@[reducible] def aa7 (w:gV):TO:=.cells [.s (.int .u64 w.low),.s (.int .u64 w.done),.own (usA w.l)]
@[reducible] def iw (w:gV):Ob:=[(0,aa7 w)]
structure nN (w:gV):Prop where
 low:0≤w.low∧w.low≤50000
 done:0≤w.done∧w.done≤50000
 len:w.l.length≤10000
 data:∀u∈w.l,u.data.length≤2048
theorem ajA {w:gV} (H:nN w):IntKind.u64.wrap (w.low+IntKind.u64.wrap (((w.l.map cD).length:Nat):Int))=au w:=by
 have:=H.low;have:=H.len;rw[List.length_map,IntWalk.u64_in ((w.l.length:Nat):Int) om,IntWalk.u64_in _ om]
theorem FW (n:Int):VC E0 49 0 [.s (.int .u64 n)] [] (RR (.ptr 0 0) 1 (iw ⟨n,n,[]⟩)):=by
 refine en L0 Tryz.f49 ?_;exact⟨[],[some 0],_,_,_,t3,rfl,rfl,rfl⟩
theorem bX (w:gV) (H:nN w):VC E0 42 1 [.ptr 0 0] (iw w) (RR (.s (.int .u64 (au w))) 1 (iw w)):=by
 have hw:=ajA H;refine en L0 Tryz.f42 ?_
 repeat((first|(refine⟨fun h_=>?_,fun h_=>?_⟩)|(refine aU (fun h_=>?_) (fun h_=>?_))|(refine aT (fun h_=>?_) (fun h_=>?_)))<;>first|(exfalso;revert h_;decide;done)|(exact absurd rfl h_)|(have dw:=True.intro;clear dw;(conv=>whnf)))
 rw[hw];exact⟨[],[some 0],_,_,_,t3,rfl,rfl,rfl⟩
theorem kp (w:gV):VC E0 33 1 [.ptr 0 0] (iw w) (RR (.s (.int .u64 w.done)) 1 (iw w)):=by
 refine en L0 Tryz.f33 ?_
 repeat((first|(refine⟨fun h_=>?_,fun h_=>?_⟩)|(refine aU (fun h_=>?_) (fun h_=>?_))|(refine aT (fun h_=>?_) (fun h_=>?_)))<;>first|(exfalso;revert h_;decide;done)|(exact absurd rfl h_)|(have dw:=True.intro;clear dw;(conv=>whnf)))
 exact⟨[],[some 0],_,_,_,t3,rfl,rfl,rfl⟩
theorem TA (w:gV) (H:nN w) (h:au w<32):VC E0 119 1 [.ptr 0 0] (iw w) (RR (.cB []) 1 (iw w)):=by
 have hw:=bX w H;refine en L0 Tryz.f119 ?_;refine⟨[],[some 0],_,_,_,_,hw,t3,cw ?_⟩;refine sp ?_ ?_<;>intro h1
 ·refine wh ?_;exact⟨[],[some 0],_,_,_,t3,rfl,rfl,rfl⟩
 ·exact absurd h h1
theorem IX (w:gV) (H:nN w):VC E0 119 1 [.ptr 0 0] (iw w) (RR (.cB []) 1 (iw (ko w))):=by
 by_cases h:au w<32
 ·rw[show ko w=w from if_pos h];exact TA w H h
 have hw:=bX w H;have hE:au w=w.low+(w.l.length:Nat):=rfl;have Y7:=H.done;have yJ:=H.low;have hle:=H.len;have et:ko w={w with low:=max w.low (min w.done (au w - 32)),l:=w.l.drop (max w.low (min w.done (au w - 32)) - w.low).toNat}:=if_neg h;rw[et];refine en L0 Tryz.f119 ?_;refine⟨[],[some 0],_,_,_,_,hw,t3,cw ?_⟩;refine sp ?_ ?_<;>intro h1
 ·exact absurd h1 h
 obtain⟨lo,afG⟩:∃lo,lo=max w.low (min w.done (au w - 32)):=⟨_,rfl⟩;rw[←afG];have Qq:IntKind.u64.wrap (au w - 32)=au w - 32:=IntWalk.u64_in _ om;have zK:(if(if au w - 32<w.done then au w - 32 else w.done)>w.low then(if au w - 32<w.done then au w - 32 else w.done)else w.low)=lo:=by
  rw[afG];generalize au w=e;split<;>split<;>omega
 have Gz:IntKind.u64.wrap (lo - w.low)=lo - w.low:=IntWalk.u64_in _ om;have Co:IntKind.i64.wrap (lo - w.low)=lo - w.low:=IntWalk.i64_in _ om;have Ma:List.drop (lo - w.low).toNat (List.take (((w.l.map cD).length:Nat):Int).toNat (w.l.map cD))=(w.l.drop (lo - w.low).toNat).map cD:=by
  rw[List.take_of_length_le (by simp),List.map_drop]
 refine wh ?_;rw[Qq];rw[zK,Gz,Co];refine⟨⟨om,by rw[List.length_map];omega,rfl,Int.le_refl _⟩,?_⟩;refine wh ?_;rw[Ma];refine⟨by simp<;>omega,?_⟩;refine wh ?_;exact⟨[],[some 0],_,_,_,t3,rfl,rfl,rfl⟩
theorem Xh (w:gV) (u:dx) (H:nN w) (hu:uz u=0) (hs:u.seq - 1=au w) (h0:1≤u.seq) (hL:w.l.length<9999):VC E0 103 1 [.ptr 0 0,.agg (cD u)] (iw w) (RR (.s (.int .i64 0)) 1 (iw (WG w u))):=by
 have hc:=Bp u;rw[hu]at hc;have hE:au w=w.low+(w.l.length:Nat):=rfl;have yJ:=H.low;have hle:=H.len;have hdl:u.data.length≤2048:=(Ni hu).2;have Qq:IntKind.u64.wrap (u.seq - 1)=u.seq - 1:=IntWalk.u64_in _ om;have bW:=bX w H;have H2:nN {w with l:=w.l++[u]}:=⟨H.low,H.done,by rw[List.length_append];simp;omega,fun x hx=>by
  rcases List.mem_append.1 hx with q|q
  ·exact H.data x q
  ·simp at q;subst q;exact hdl⟩
 have e2:au {w with l:=w.l++[u]}=au w+1:=by show w.low+((w.l++[u]).length:Nat)=_;rw[List.length_append,hE];simp;omega
 have VE:=IX {w with l:=w.l++[u]} H2;have e:WG w u=ko {w with l:=w.l++[u]}:=by
  unfold WG;rw[if_neg (not_not_intro hu),if_neg (not_not_intro hs)]
 rw[e];refine en L0 Tryz.f103 ?_
 repeat((first|(refine⟨fun h_=>?_,fun h_=>?_⟩)|(refine aU (fun h_=>?_) (fun h_=>?_))|(refine aT (fun h_=>?_) (fun h_=>?_)))<;>first|(exfalso;revert h_;decide;done)|(exact absurd rfl h_)|(have dw:=True.intro;clear dw;(conv=>whnf)))
 refine⟨[],[],_,_,_,_,hc,t3,cw ?_⟩
 repeat((first|(refine⟨fun h_=>?_,fun h_=>?_⟩)|(refine aU (fun h_=>?_) (fun h_=>?_))|(refine aT (fun h_=>?_) (fun h_=>?_)))<;>first|(exfalso;revert h_;decide;done)|(exact absurd rfl h_)|(have dw:=True.intro;clear dw;((conv=>whnf)<;>repeat(with_reducible refine D1 ?_)<;>conv=>whnf)))
 rw[Qq];refine⟨[],[some 0],_,_,_,_,bW,t3,cw ?_⟩;refine sp ?_ ?_<;>intro bC
 ·exact absurd hs bC
 refine wh ?_;refine⟨[4],[],_,_,_,_,Tz u hdl,t3,cw ?_⟩;refine⟨by simp;omega,?_⟩;refine wh ?_;refine⟨[],[some 0],_,_,_,_,VE,⟨by((repeat' first|exact LF|constructor);all_goals(exact Lz.of (by rw[List.map_append];rfl))),by((repeat' first|exact LF|constructor);all_goals(exact Lz.of (by rw[List.map_append];rfl))),by rfl⟩,?_⟩;rintro r o' c' ⟨rfl,rfl,rfl⟩;refine wh ?_;exact⟨[],[some 0],_,_,_,t3,rfl,rfl,rfl⟩
theorem FX (w:gV) (H:nN w) (bu jU:Int) (h0:0≤jU∧jU<100000) (l:List dx) (h:fm w bu jU=some l):VC E0 68 1 [.ptr 0 0,.s (.int .u64 bu),.s (.int .i64 jU)] (iw w) (RR (.cB [.sl 7 (l.map cD) false,.s (.bool true)]) 1 (iw w)):=by
 have bW:=bX w H;unfold fm at h;split at h
 ·cases h
 rename_i hn;cases h;rw[not_or]at hn;have hb:=IW w.l bu jU (by have:=H.len;omega) h0 (fun u hu=>by have:=H.data u hu;omega);refine en L0 Tryz.f68 ?_;refine sp ?_ ?_<;>intro h1
 ·exact absurd h1 hn.1
 refine wh ?_;refine⟨[],[some 0],_,_,_,_,bW,t3,cw ?_⟩;refine sp ?_ ?_<;>intro h2
 ·exact absurd h2 hn.2
 refine wh ?_;refine⟨[],[some 2],_,_,_,_,hb,t3,cw ?_⟩;exact⟨[],[some 0],_,_,_,t3,rfl,rfl,rfl⟩
theorem zt (w:gV) (H:nN w) (bu jU:Int) (h:fm w bu jU=none):VC E0 68 1 [.ptr 0 0,.s (.int .u64 bu),.s (.int .i64 jU)] (iw w) (RR (.cB [.sl 0 [] true,.s (.bool false)]) 1 (iw w)):=by
 have bW:=bX w H;unfold fm at h;split at h;rotate_left
 ·cases h
 rename_i hn;refine en L0 Tryz.f68 ?_;refine sp ?_ ?_<;>intro h1
 ·refine wh ?_;exact⟨[],[some 0],_,_,_,t3,rfl,rfl,rfl⟩
 refine wh ?_;refine⟨[],[some 0],_,_,_,_,bW,t3,cw ?_⟩;refine sp ?_ ?_<;>intro h2
 ·refine wh ?_;exact⟨[],[some 0],_,_,_,t3,rfl,rfl,rfl⟩
 ·exact absurd hn (by rintro(q|q);exact h1 q;exact h2 q)
theorem aa8 (w:gV) (n:Int):(if(if au w<n then au w else n)>w.done then(if au w<n then au w else n)else w.done)=cS w n:=by
 unfold cS;generalize au w=e;split<;>split<;>omega
theorem IY (w:gV) (n:Int) (H:nN w) (_:0≤n∧n≤1000000) (hd:w.done≤au w) (h5:au w≤50000):VC E0 90 1 [.ptr 0 0,.s (.int .u64 n)] (iw w) (RR (.sl 7 ((ic w n).1.map cD) false) 1 (iw (ic w n).2)):=by
 have bW:=bX w H;have hE:au w=w.low+(w.l.length:Nat):=rfl;have Y7:=H.done;have yJ:=H.low;have hle:=H.len;have hr:w.done≤cS w n∧cS w n≤au w:=by unfold cS;omega
 have H2:nN {w with done:=cS w n}:=⟨H.low,by show 0≤cS w n∧cS w n≤50000;omega,H.len,H.data⟩;have hb:=IW w.l w.done (cS w n - w.done) om om (fun u hu=>by have:=H.data u hu;omega);have VE:=IX {w with done:=cS w n} H2;have e:ic w n=(cg w.done w.l (cS w n - w.done),ko {w with done:=cS w n}):=rfl;have Qq:IntKind.u64.wrap (cS w n - w.done)=cS w n - w.done:=IntWalk.u64_in _ om;have Gz:IntKind.i64.wrap (cS w n - w.done)=cS w n - w.done:=IntWalk.i64_in _ om;rw[e];refine en L0 Tryz.f90 ?_;refine⟨[],[some 0],_,_,_,_,bW,t3,cw ?_⟩;rw[aa8 w n,Qq,Gz];refine⟨[],[some 2],_,_,_,_,hb,t3,cw ?_⟩
 refine⟨[],[some 0],_,_,_,_,VE,t3,cw ?_⟩;exact⟨[],[some 0],_,_,_,t3,rfl,rfl,rfl⟩
theorem DH (w:gV) (H:nN w) (hd:w.done≤au w):VC E0 43 1 [.ptr 0 0] (iw w) (RR (.s (.int .i64 (l4 w))) 1 (iw w)):=by
 have bW:=bX w H;have hE:au w=w.low+(w.l.length:Nat):=rfl;have Y7:=H.done;have yJ:=H.low;have hle:=H.len;have Qq:IntKind.u64.wrap (au w - w.done)=au w - w.done:=IntWalk.u64_in _ om;have Gz:IntKind.i64.wrap (au w - w.done)=au w - w.done:=IntWalk.i64_in _ om;refine en L0 Tryz.f43 ?_;refine⟨[],[some 0],_,_,_,_,bW,t3,cw ?_⟩;refine⟨[],[some 0],_,_,_,_,kp w,t3,cw ?_⟩;rw[Qq,Gz];exact⟨[],[some 0],_,_,_,t3,rfl,rfl,rfl⟩
theorem TB (w:gV) (H:nN w) (hd:w.done≤au w):VC E0 61 1 [.ptr 0 0] (iw w) (RR (.s (.bool (decide (l4 w<16)))) 1 (iw w)):=by
 have Y6:=DH w H hd;refine en L0 Tryz.f61 ?_;refine⟨[],[some 0],_,_,_,_,Y6,t3,cw ?_⟩;refine sp ?_ ?_<;>intro h
 ·have h:l4 w<16:=h;refine wh ?_;refine⟨[],[some 0],_,_,_,tx ?_,rfl,rfl,rfl⟩;exact Lz.of (aX (Eq.symm (decide_eq_true h)))
 ·have h:¬l4 w<16:=h;refine wh ?_;refine⟨[],[some 0],_,_,_,tx ?_,rfl,rfl,rfl⟩;exact Lz.of (aX (Eq.symm (decide_eq_false h)))
@[reducible] def fo (n:Int):List TV:=[.s (.int .i64 n)]
def dm (c:CF):List TV:=[.s (.int .i64 c.chain),.s (.int .u64 c.aV),.sl 1 (c.nodes.map fo) false,.s (.bool c.fresh),.s (.int .i64 c.join)]
theorem DI (l:List Int) (x:Int) (hl:l.length<1000000):VC E0 82 0 [.sl 1 (l.map fo) false,.s (.int .i64 x)] []
 (fun r o c=>∃i:Int,r= .s (.int .i64 i)∧((x∉l∧i= -1)∨(i=jn x l∧jn x l<l.length))∧c=0∧o=[]):=by
 refine en L0 Tryz.f82 ?_;refine⟨fun k f o c=>∃j:Nat,j≤l.length∧k=l.length - j∧x∉l.take j∧c=0∧f=[(0,.sl 1 (l.map fo) false),(1,.s (.int .i64 x)),(7,.s (.int .i64 l.length)),(8,.s (.int .i64 j))]∧o=[],⟨l.length,?_⟩,?_⟩
 ·refine⟨[],[],_,_,_,tx ?_,⟨0,Nat.zero_le _,rfl,by simp,rfl,rfl,rfl⟩⟩;exact Lz.int (by rw[List.length_map])
 ·rintro k f1 o1 c1 ⟨j,hj,rfl,hn,rfl,rfl,rfl⟩;refine wh ?_;refine sp ?_ ?_<;>intro h
  ·have h:j<l.length:=by have:(j:Int)<(l.length:Nat):=h
                         omega
   refine wh ?_;refine oB h ?_;refine wh ?_;refine sp ?_ ?_<;>intro he
   ·have he:x=l[j]:=he;have hx:=MY h he.symm hn;refine wh ?_;exact⟨[],[],_,_,_,t3,_,rfl,.inr ⟨by rw[hx],by rw[hx];exact h⟩,rfl,rfl⟩
   ·have he:¬x=l[j]:=he;refine wh ?_;refine⟨l.length - (j+1),?_,om⟩;exact⟨[],[],_,_,_,t3,⟨j+1,h,rfl,(by rw[List.take_succ_eq_append_getElem h];simp only[List.mem_append,List.mem_singleton,not_or];exact⟨hn,he⟩),rfl,rfl,rfl⟩⟩
  ·have hj':j=l.length:=by have:¬(j:Int)<(l.length:Nat):=h
                           omega
   subst hj';rw[List.take_length]at hn;refine wh ?_;exact⟨[],[],_,_,_,t3,_,rfl,.inl ⟨hn,rfl⟩,rfl,rfl⟩
theorem Pq (l:List Int) (x:Int) (hl:l.length<1000000):VC E0 82 0 [.sl 1 (l.map fo) false,.s (.int .i64 x)] []
 (fun r o c=>∃i:Int,r= .s (.int .i64 i)∧(0≤i↔x∈l)∧c=0∧o=[]):=
 (DI l x hl).mono fun r o c ⟨i,h1,h2,h3⟩=>⟨i,h1,by
  rcases h2 with⟨q,rfl⟩|⟨rfl,q⟩
  ·exact⟨fun h=>absurd h (by decide),fun h=>absurd h q⟩
  ·exact⟨fun _=>IH q,fun _=>Int.natCast_nonneg _⟩,h3⟩
theorem fQ (l:List Int) (x:Int) (hl:l.length<1000000):VC E0 41 0 [.sl 1 (l.map fo) false,.s (.int .i64 x)] [] (RR (.s (.bool (decide (x∈l)))) 0 []):=by
 refine en L0 Tryz.f41 ?_;refine⟨[],[],_,_,_,_,Pq l x hl,t3,?_⟩;rintro r o' c' ⟨i,rfl,hi,rfl,rfl⟩;refine wh ?_;refine sp ?_ ?_<;>intro y9
 ·have y9:i≥0:=y9;refine wh ?_;refine⟨[],[],_,_,_,tx ?_,rfl,rfl,rfl⟩;exact Lz.of (aX (Eq.symm (decide_eq_true (hi.1 y9))))
 ·have y9:¬i≥0:=y9;refine wh ?_;refine⟨[],[],_,_,_,tx ?_,rfl,rfl,rfl⟩;exact Lz.of (aX (Eq.symm (decide_eq_false (mt hi.2 y9))))
theorem xh (l:List Int) (hl:l.length<1000000):VC E0 143 0 [.sl 1 (l.map fo) false] [] (RR (.tk 0) 1 [(0,.arr 1 true (l.map fo))]):=by
 refine en L0 Tryz.f143 ?_;refine⟨fun h=>?_,?_⟩
 ·have h:l=[]:=by simpa using h
  subst h;refine wh ?_;exact⟨[],[none],_,_,_,t3,rfl,rfl,rfl⟩
 ·refine wh ?_;refine⟨by simp;omega,?_⟩;refine wh ?_;exact⟨[],[some 1],_,_,_,t3,rfl,rfl,rfl⟩
def Y8 (n:Int):Bool:=decide (1≤n∧n≤24)
theorem TC (n:Int):VC E0 142 0 [.s (.int .i64 n)] [] (RR (.s (.bool (Y8 n))) 0 []):=by
 refine en L0 Tryz.f142 ?_;refine sp ?_ ?_<;>intro h1
 ·have h1:n≥1:=h1;refine wh ?_;refine sp ?_ ?_<;>intro h2
  ·have h2:n≤24:=h2;refine wh ?_;refine⟨[],[],_,_,_,tx ?_,rfl,rfl,rfl⟩;exact Lz.of (aX (Eq.symm (decide_eq_true ⟨h1,h2⟩)))
  ·have h2:¬n≤24:=h2;refine wh ?_;refine⟨[],[],_,_,_,tx ?_,rfl,rfl,rfl⟩;exact Lz.of (aX (Eq.symm (decide_eq_false fun h=>h2 h.2)))
 ·have h1:¬n≥1:=h1;refine wh ?_;refine⟨[],[],_,_,_,tx ?_,rfl,rfl,rfl⟩;exact Lz.of (aX (Eq.symm (decide_eq_false fun h=>h1 h.1)))
def kX (l:List Int):Prop:=l.Nodup∧∀n∈l,1≤n∧n≤24
instance (l:List Int):Decidable (kX l):=inferInstanceAs (Decidable (_∧_))
theorem IZ (l:List Int) (n:Int):kX (l++[n])↔kX l∧(1≤n∧n≤24)∧n∉l:=by
 unfold kX;rw[List.nodup_append];constructor
 ·rintro⟨⟨h1,_,h2⟩,h3⟩;exact⟨⟨h1,fun m hm=>h3 m (List.mem_append_left _ hm)⟩,h3 n (by simp),fun hm=>h2 n hm n (by simp) rfl⟩
 ·rintro⟨⟨h1,h2⟩,h3,h4⟩;refine⟨⟨h1,by simp,fun a ha b hb=>?_⟩,fun m hm=>?_⟩
  ·simp at hb;subst hb;rintro rfl;exact h4 ha
  ·rcases List.mem_append.1 hm with q|q
   ·exact h2 m q
   ·simp at q;subst q;exact h3
theorem ym {l:List Int} {i:Nat} (h:kX l):kX (l.take i):=⟨(List.take_sublist i l).nodup h.1,fun n hn=>h.2 n (List.mem_of_mem_take hn)⟩
theorem Nk (l:List Int) (hl:l.length<1000000):VC E0 97 0 [.sl 1 (l.map fo) false] [] (RR (.s (.bool (decide (kX l)))) 0 []):=by
 refine en L0 Tryz.f97 ?_;refine⟨fun k f o c=>∃j:Nat,j≤l.length∧k=l.length - j∧kX (l.take j)∧c=0∧f=[(0,.sl 1 (l.map fo) false),(5,.sl 1 (l.map fo) false),(6,.s (.int .i64 l.length)),(7,.s (.int .i64 j))]∧o=[],⟨l.length,?_⟩,?_⟩
 ·refine⟨[],[],_,_,_,tx ?_,⟨0,Nat.zero_le _,rfl,⟨by simp,by simp⟩,rfl,rfl,rfl⟩⟩;exact Lz.int (by rw[List.length_map])
 ·rintro k f1 o1 c1 ⟨j,hj,rfl,hn,rfl,rfl,rfl⟩;refine wh ?_;refine sp ?_ ?_<;>intro h
  ·have h:j<l.length:=by have:(j:Int)<(l.length:Nat):=h
                         omega
   refine wh ?_;refine oB h ?_;refine wh ?_;have hs:=IZ (l.take j) l[j];rw[←List.take_succ_eq_append_getElem h]at hs;refine⟨[],[],_,_,_,_,TC l[j],t3,?_⟩;rintro r o' c' ⟨rfl,rfl,rfl⟩;have dw:=True.intro;clear dw;cases hb:Y8 l[j]
   ·have hb:¬(1≤l[j]∧l[j]≤24):=of_decide_eq_false hb;refine wh ?_;refine⟨[],[],_,_,_,tx ?_,rfl,rfl,rfl⟩;exact Lz.of (aX (Eq.symm (decide_eq_false fun q=>hb (hs.1 (ym q)).2.1)))
   ·have hb:1≤l[j]∧l[j]≤24:=of_decide_eq_true hb;refine wh ?_;refine⟨⟨om,om,by simp;omega⟩,?_⟩;refine wh ?_;refine⟨[],[],_,_,_,_,fQ (l.take j) l[j] (by simp;omega),⟨by((repeat' first|exact LF|constructor);all_goals(exact Lz.of (by simp[List.map_take]))),by((repeat' first|exact LF|constructor);all_goals(exact Lz.of (by simp[List.map_take]))),by rfl⟩,?_⟩;rintro r o' c' ⟨rfl,rfl,rfl⟩;refine wh ?_;by_cases hm:l[j]∈l.take j
    ·rw[decide_eq_true hm];refine wh ?_;refine⟨[],[],_,_,_,tx ?_,rfl,rfl,rfl⟩;exact Lz.of (aX (Eq.symm (decide_eq_false fun q=>(hs.1 (ym q)).2.2 hm)))
    ·rw[decide_eq_false hm];refine wh ?_;refine⟨l.length - (j+1),?_,om⟩;exact⟨[],[],_,_,_,t3,⟨j+1,h,rfl,hs.2 ⟨hn,hb,hm⟩,rfl,rfl,rfl⟩⟩
  ·have hj':j=l.length:=by have:¬(j:Int)<(l.length:Nat):=h
                           omega
   subst hj';rw[List.take_length]at hn;refine wh ?_;refine⟨[],[],_,_,_,tx ?_,rfl,rfl,rfl⟩;exact Lz.of (aX (Eq.symm (decide_eq_true hn)))
def ry (c:CF):List Int:=c.nodes++(if c.join=0 then []else [c.join])
theorem Lq (c:CF):(ry c).length≤c.nodes.length+1:=by unfold ry;split<;>simp
theorem Br (c:CF) (hl:c.nodes.length<100000):VC E0 98 0 [.agg (dm c)] [] (RR (.tk 0) 1 [(0,.arr 1 true ((ry c).map fo))]):=by
 refine en L0 Tryz.f98 ?_;refine sp ?_ ?_<;>intro hj
 ·have hj:c.join=0:=hj;refine wh ?_;refine⟨[],[],_,_,_,_,xh c.nodes om,t3,cw ?_⟩;refine⟨[],[some 1],_,_,_,tx ?_,rfl,rfl,rfl⟩;exact Lz.of (by unfold ry;simp[hj])
 ·have hj:¬c.join=0:=hj;refine wh ?_;refine⟨[],[],_,_,_,_,xh c.nodes om,t3,cw ?_⟩;refine⟨by simp;omega,?_⟩;refine wh ?_;refine⟨[],[some 3],_,_,_,tx ?_,rfl,rfl,rfl⟩;exact Lz.of (by unfold ry;simp[hj])
def bV (c:CF):Prop:=(0≤c.chain∧c.chain<4)∧1≤c.aV∧(1≤c.nodes.length∧c.nodes.length≤5)∧(c.fresh=true→2≤c.nodes.length∧c.join=0)∧kX (ry c)
instance (c:CF):Decidable (bV c):=inferInstanceAs (Decidable (_∧_))
theorem TD (c:CF):VC E0 55 0 [.agg (dm c)] [] (RR (.s (.bool (decide (bV c)))) 0 []):=by
 have yM:=Lq c;refine en L0 Tryz.f55 ?_;refine sp ?_ ?_<;>intro h1
 ·have h1:c.chain<0:=h1;refine wh ?_;refine⟨[],[],_,_,_,tx ?_,rfl,rfl,rfl⟩;exact Lz.of (aX (Eq.symm (decide_eq_false fun q=>by obtain⟨⟨_,_⟩,_,⟨_,_⟩,_,_⟩:=q;omega)))
 have h1:¬c.chain<0:=h1;refine wh ?_;refine sp ?_ ?_<;>intro h2
 ·have h2:c.chain≥4:=h2;refine wh ?_;refine⟨[],[],_,_,_,tx ?_,rfl,rfl,rfl⟩;exact Lz.of (aX (Eq.symm (decide_eq_false fun q=>by obtain⟨⟨_,_⟩,_,⟨_,_⟩,_,_⟩:=q;omega)))
 have h2:¬c.chain≥4:=h2;refine wh ?_;refine sp ?_ ?_<;>intro h3
 ·have h3:c.aV<1:=h3;refine wh ?_;refine⟨[],[],_,_,_,tx ?_,rfl,rfl,rfl⟩;exact Lz.of (aX (Eq.symm (decide_eq_false fun q=>by obtain⟨⟨_,_⟩,_,⟨_,_⟩,_,_⟩:=q;omega)))
 have h3:¬c.aV<1:=h3;refine wh ?_;refine sp ?_ ?_<;>intro h4
 ·have h4:(((c.nodes.map fo).length:Nat):Int)<1:=h4;rw[List.length_map]at h4;refine wh ?_;refine⟨[],[],_,_,_,tx ?_,rfl,rfl,rfl⟩;exact Lz.of (aX (Eq.symm (decide_eq_false fun q=>by obtain⟨⟨_,_⟩,_,⟨_,_⟩,_,_⟩:=q;omega)))
 have h4:¬(((c.nodes.map fo).length:Nat):Int)<1:=h4;rw[List.length_map]at h4;refine wh ?_;refine sp ?_ ?_<;>intro h5
 ·have h5:(((c.nodes.map fo).length:Nat):Int)>5:=h5;rw[List.length_map]at h5;refine wh ?_;refine⟨[],[],_,_,_,tx ?_,rfl,rfl,rfl⟩;exact Lz.of (aX (Eq.symm (decide_eq_false fun q=>by obtain⟨⟨_,_⟩,_,⟨_,_⟩,_,_⟩:=q;omega)))
 have h5:¬(((c.nodes.map fo).length:Nat):Int)>5:=h5;rw[List.length_map]at h5;refine wh ?_;cases hf:c.fresh
 ·refine wh ?_;refine⟨[],[],_,_,_,_,Br c om,⟨by((repeat' first|exact LF|constructor);all_goals(exact Lz.of (aX hf.symm))),by((repeat' first|exact LF|constructor);all_goals(exact Lz.of (aX hf.symm))),by rfl⟩,?_⟩;rintro r o' c' ⟨rfl,rfl,rfl⟩;refine wh ?_;refine⟨[1],[],_,_,_,_,Nk (ry c) om,t3,cw ?_⟩;refine⟨[],[],_,_,_,tx ?_,rfl,rfl,rfl⟩;exact Lz.of (aX (decide_eq_decide.2 ⟨fun q=>⟨⟨om,om⟩,om,⟨om,om⟩,(fun e=>absurd (hf.symm.trans e) (by decide)),q⟩,fun q=>q.2.2.2.2⟩))
 ·refine wh ?_;refine sp ?_ ?_<;>intro h6
  ·have h6:(((c.nodes.map fo).length:Nat):Int)<2:=h6;rw[List.length_map]at h6;refine wh ?_;refine⟨[],[],_,_,_,tx ?_,rfl,rfl,rfl⟩;exact Lz.of (aX (Eq.symm (decide_eq_false fun q=>by have:=q.2.2.2.1 hf;omega)))
  have h6:¬(((c.nodes.map fo).length:Nat):Int)<2:=h6;rw[List.length_map]at h6;refine wh ?_;refine sp ?_ ?_<;>intro h7
  ·have h7:c.join≠0:=h7;refine wh ?_;refine⟨[],[],_,_,_,tx ?_,rfl,rfl,rfl⟩;exact Lz.of (aX (Eq.symm (decide_eq_false fun q=>by have:=q.2.2.2.1 hf;omega)))
  have h7:c.join=0:=Classical.not_not.1 h7;refine wh ?_;refine⟨[],[],_,_,_,_,Br c om,⟨by((repeat' first|exact LF|constructor);all_goals(exact Lz.of (aX hf.symm))),by((repeat' first|exact LF|constructor);all_goals(exact Lz.of (aX hf.symm))),by rfl⟩,?_⟩;rintro r o' c' ⟨rfl,rfl,rfl⟩;refine wh ?_;refine⟨[1],[],_,_,_,_,Nk (ry c) om,t3,cw ?_⟩;refine⟨[],[],_,_,_,tx ?_,rfl,rfl,rfl⟩;exact Lz.of (aX (decide_eq_decide.2 ⟨fun q=>⟨⟨om,om⟩,om,⟨om,om⟩,(fun e=>⟨om,h7⟩),q⟩,fun q=>q.2.2.2.2⟩))
theorem TE (c:CF) (hn:c.nodes.length<1000000):VC E0 118 0 [.agg (dm c)] [] (RR (.agg (dm c)) 0 []):=by
 refine en L0 Tryz.f118 ?_;refine⟨[],[],_,_,_,_,xh c.nodes hn,t3,cw ?_⟩;exact⟨[2],[],_,_,_,t3,rfl,rfl,rfl⟩
@[reducible] def FZ:List TV:=[.s (.int .i64 0),.s (.int .u64 0),.sl 0 [] true,.s (.bool false),.s (.int .i64 0)]
def rE (l:List CF) (j:Nat):List (List TV):=(l.take j).map dm++List.replicate (l.length - j) FZ
theorem Pr (l:List CF) (j:Nat) (h:j≤l.length):(rE l j).length=l.length:=by unfold rE;simp;omega
theorem Ps (l:List CF) (j:Nat) (h:j<l.length):(rE l j).set j (dm l[j])=rE l (j+1):=by
 unfold rE;have e:l.length - j=(l.length - (j+1))+1:=by omega
 have hlen:((l.take j).map dm).length=j:=by rw[List.length_map,List.length_take];omega
 rw[e,List.replicate_succ,List.set_append,if_neg om,hlen,Nat.sub_self,List.take_succ_eq_append_getElem h,List.map_append,List.append_assoc];rfl
theorem Pt (l:List CF) (j:Nat) (h:j<l.length):(rE l j)[j]? =some FZ:=by
 unfold rE;have e:l.length - j=(l.length - (j+1))+1:=by omega
 have hlen:((l.take j).map dm).length=j:=by rw[List.length_map,List.length_take];omega
 rw[e,List.replicate_succ,List.getElem?_append_right om,hlen,Nat.sub_self];rfl
theorem Pu (l:List CF) (hl:l.length<10000) (hn:∀c∈l,c.nodes.length<1000000):VC E0 89 0 [.sl 5 (l.map dm) false] [] (RR (.tk 0) 1 [(0,.arr 5 true (l.map dm))]):=by
 refine en L0 Tryz.f89 ?_;refine⟨⟨om,om,by simp;omega⟩,?_⟩;refine wh ?_;refine⟨fun k f o c=>∃j:Nat,j≤l.length∧k=l.length - j∧c=1∧f=[(3,.tk 0),(9,.sl 5 (l.map dm) false),(10,.s (.int .i64 l.length)),(11,.s (.int .i64 j))]∧o=[(0,.arr 5 true (rE l j))],⟨l.length,?_⟩,?_⟩
 ·refine⟨[],[some 0],?_⟩
  iterate 3 constructor
  refine⟨⟨?_,?_,?_⟩,⟨0,Nat.zero_le _,rfl,rfl,rfl,rfl⟩⟩
  all_goals(repeat' first|exact LF|constructor)
  ·exact Lz.int (by rw[List.length_map])
  ·exact Lz.of (by simp[rE];exact .inr rfl)
 ·rintro k f1 o1 c1 ⟨j,hj,rfl,rfl,rfl,rfl⟩;refine wh ?_;refine sp ?_ ?_<;>intro h
  ·have h:j<l.length:=by have:(j:Int)<(l.length:Nat):=h
                         omega
   refine wh ?_;refine oB h ?_;refine wh ?_;refine⟨[],[],_,_,_,_,TE l[j] (hn _ (List.getElem_mem h)),t3,cw ?_⟩;refine⟨⟨om,by rw[Pr l j hj];omega⟩,?_⟩;refine wh ?_;refine⟨FZ,by rw[Int.toNat_natCast];exact Pt l j h,?_⟩;refine wh ?_;refine⟨l.length - (j+1),?_,om⟩;refine⟨[],[some 0],_,_,_,tx ?_,⟨j+1,h,rfl,rfl,rfl,rfl⟩⟩;exact Lz.of (by rw[Int.toNat_natCast];exact Ps l j h)
  ·have hj':j=l.length:=by have:¬(j:Int)<(l.length:Nat):=h
                           omega
   subst hj';have hc:rE l l.length=l.map dm:=by unfold rE;simp
   rw[hc];refine wh ?_;exact⟨[],[some 0],_,_,_,t3,rfl,rfl,rfl⟩
@[reducible] def Nl (r:DC):List TV:=[.s (.bool r.Bm),.s (.bool r.jm),.s (.bool r.head),.s (.bool r.tail),.s (.bool r.waits),.s (.int .i64 r.place),.s (.int .i64 r.pred),.s (.int .i64 r.succ)]
theorem uC (c:CF) (H:bV c):VC E0 55 0 [.agg (dm c)] [] (RR (.s (.bool true)) 0 []):=by
 have h:=TD c;rw[decide_eq_true H]at h;exact h
theorem TF (c:CF) (H:bV c):VC E0 87 0 [.agg (dm c)] [] (RR (.s (.int .i64 (lZ c))) 0 []):=by
 have hn:=H.2.2.1;have hw:IntKind.i64.wrap ((((c.nodes.map fo).length:Nat):Int) - 1)=((c.nodes.length - 1:Nat):Int):=by rw[List.length_map,IntWalk.i64_in _ om];omega
 have bw:c.nodes.length - 1<c.nodes.length:=by omega
 have e:lZ c=c.nodes[c.nodes.length - 1]:=by unfold lZ;simp[List.getD,bw]
 rw[e];refine en L0 Tryz.f87 ?_;refine⟨[],[],_,_,_,_,uC c H,t3,cw ?_⟩;rw[hw];refine oB bw ?_;refine wh ?_;exact⟨[],[],_,_,_,t3,rfl,rfl,rfl⟩
theorem jV (c:CF) (H:bV c) (node:Int):VC E0 47 0 [.agg (dm c),.s (.int .i64 node)] [] (RR (.agg (Nl (bh c node))) 0 []):=by
 have hn:=H.2.2.1;have ht:=TF c H;refine en L0 Tryz.f47 ?_;refine⟨[],[],_,_,_,_,uC c H,t3,cw ?_⟩;refine sp ?_ ?_<;>intro h0
 ·have h0:node=0:=h0;have e:bh c node=w9:=by unfold bh;rw[if_pos h0]
  rw[e];refine wh ?_;exact⟨[],[],_,_,_,t3,rfl,rfl,rfl⟩
 have h0:¬node=0:=h0;refine wh ?_;refine sp ?_ ?_<;>intro hj
 ·have hj:node=c.join:=hj;have e:bh c node=⟨false,true,false,false,true,0,lZ c,0⟩:=by unfold bh;rw[if_neg h0,if_pos hj]
  rw[e];refine wh ?_;refine⟨[],[],_,_,_,_,ht,t3,cw ?_⟩;exact⟨[],[],_,_,_,t3,rfl,rfl,rfl⟩
 have hj:¬node=c.join:=hj;refine wh ?_;refine⟨[],[],_,_,_,_,DI c.nodes node om,t3,?_⟩;rintro r o' c' ⟨i,rfl,hi,rfl,rfl⟩;rcases hi with⟨uc,rfl⟩|⟨rfl,bw⟩
 ·have e:bh c node=w9:=by unfold bh;rw[if_neg h0,if_neg hj,if_neg (by rw[MZ uc];omega)]
  rw[e];refine wh ?_
  repeat((first|(refine⟨fun h_=>?_,fun h_=>?_⟩)|(refine aU (fun h_=>?_) (fun h_=>?_))|(refine aT (fun h_=>?_) (fun h_=>?_)))<;>first|(exfalso;revert h_;decide;done)|(exact absurd rfl h_)|(have dw:=True.intro;clear dw;(conv=>whnf)))
  exact⟨[],[],_,_,_,t3,rfl,rfl,rfl⟩
 have I1:bh c node=⟨true,false,decide (jn node c.nodes=0),decide (node=lZ c),decide (node=lZ c)&&c.fresh,(jn node c.nodes:Nat),if 0<jn node c.nodes then c.nodes.getD (jn node c.nodes - 1) 0 else 0,if decide (node=lZ c)then c.join else c.nodes.getD (jn node c.nodes+1) 0⟩:=by
  unfold bh;rw[if_neg h0,if_neg hj,if_pos bw]
 have htl:node≠lZ c→jn node c.nodes+1<c.nodes.length:=fun h=>by
  rcases Nat.lt_or_ge (jn node c.nodes+1) c.nodes.length with q|q
  ·exact q
  ·exfalso;apply h;have hx:=II bw;unfold lZ;rw[show c.nodes.length - 1=jn node c.nodes by omega];simp[List.getD,bw,hx]
 generalize hj0:jn node c.nodes=j at bw htl I1;have hwp:IntKind.i64.wrap ((j:Int)+1)=((j+1:Nat):Int):=IntWalk.i64_in _ om;refine wh ?_;refine sp ?_ ?_<;>intro afJ
 ·have afJ:(j:Int)<0:=afJ;omega
 refine wh ?_;refine sp ?_ ?_<;>intro hz
 ·have hz:(j:Int)=0:=hz;obtain rfl:j=0:=by omega
  refine wh ?_;refine⟨[],[],_,_,_,_,ht,t3,cw ?_⟩;refine sp ?_ ?_<;>intro pU
  ·have pU:node=lZ c:=pU;have e:bh c node=⟨true,false,true,true,c.fresh,0,0,c.join⟩:=by rw[I1];simp[pU]
   rw[e];refine wh ?_;refine sp ?_ ?_<;>intro hp
   ·exact absurd hp (by decide)
   refine wh ?_;exact⟨[],[],_,_,_,t3,rfl,rfl,rfl⟩
  ·have pU:¬node=lZ c:=pU;have N6:=htl pU;have e:bh c node=⟨true,false,true,false,false,0,0,c.nodes[0+1]⟩:=by rw[I1];simp[pU,List.getD,N6]
   rw[e];refine wh ?_;refine sp ?_ ?_<;>intro hp
   ·exact absurd hp (by decide)
   refine wh ?_;rw[hwp];refine oB N6 ?_;refine wh ?_;exact⟨[],[],_,_,_,t3,rfl,rfl,rfl⟩
 ·have hz:¬(j:Int)=0:=hz;have hwm:IntKind.i64.wrap ((j:Int) - 1)=((j - 1:Nat):Int):=by rw[IntWalk.i64_in _ om];omega
  have Zx:j - 1<c.nodes.length:=by omega
  have hjp:0<j:=by omega
  have hjz:j≠0:=by omega
  refine wh ?_;refine⟨[],[],_,_,_,_,ht,t3,cw ?_⟩;refine sp ?_ ?_<;>intro pU
  ·have pU:node=lZ c:=pU;have e:bh c node=⟨true,false,false,true,c.fresh,(j:Nat),c.nodes[j - 1],c.join⟩:=by rw[I1];simp[pU,hjz,hjp,List.getD,Zx]
   rw[e];refine wh ?_;refine sp ?_ ?_<;>intro hp;rotate_left
   ·have hp:¬(j:Int)>0:=hp;omega
   refine wh ?_;rw[hwm];refine oB Zx ?_;refine wh ?_;exact⟨[],[],_,_,_,t3,rfl,rfl,rfl⟩
  ·have pU:¬node=lZ c:=pU;have N6:=htl pU;have e:bh c node=⟨true,false,false,false,false,(j:Nat),c.nodes[j - 1],c.nodes[j+1]⟩:=by rw[I1];simp[pU,hjz,hjp,List.getD,Zx,N6]
   rw[e];refine wh ?_;refine sp ?_ ?_<;>intro hp;rotate_left
   ·have hp:¬(j:Int)>0:=hp;omega
   refine wh ?_;rw[hwm];refine oB Zx ?_;refine wh ?_;rw[hwp];refine oB N6 ?_;refine wh ?_;exact⟨[],[],_,_,_,t3,rfl,rfl,rfl⟩
@[reducible] def nz (r:fw):Bool:=decide (r.num≠0)
@[reducible] def uD (t:gg):List fw:=[t.r1,t.r2,t.r3,t.r4,t.r5,t.r6]
@[reducible] def gj (t:gg):List fw:=(uD t).filter nz
theorem Xi (t:gg) {c:Int} (h:1≤c∧c≤6):t.row c=(uD t).getD (c - 1).toNat gd:=by
 rcases FR h with rfl |rfl |rfl |rfl |rfl |rfl<;>rfl
theorem TG (t:gg) {i:Nat} (h:i<6):iM t ((i+1:Nat):Int)=if((uD t).getD i gd).num=0 then(gd,false)else((uD t).getD i gd,true):=by
 unfold iM;rw[Xi t (c:=((i+1:Nat):Int)) om,show(((i+1:Nat):Int) - 1).toNat=i from by omega];by_cases hz:((uD t).getD i gd).num=0
 ·rw[if_pos hz,if_pos (.inr hz)]
 ·rw[if_neg hz,if_neg (by rintro(q|q);omega;exact hz q)]
theorem TH (t:gg) {i:Nat} (h:i<6):(uD t).take (i+1)=(uD t).take i++[(uD t).getD i gd]:=by
 rw[List.take_succ_eq_append_getElem (show i<(uD t).length from h)];simp[List.getD,h]
end Go.M
namespace Go.M
open Go
@[reducible] def fg (n:Int):List TV:=[.s (.int .u8 n)]
def dH:Nat→Nat→List Int
 |0,_=>[]
 |w+1,n=>dH w (n / 256)++[((n % 256:Nat):Int)]
theorem cE:∀w n,(dH w n).length=w
 |0,_=>rfl
 |w+1,n=>by unfold dH;rw[List.length_append,cE w];rfl
theorem DJ:∀w n,dH (w+1) n=((n / 256 ^ w % 256:Nat):Int)::dH w n
 |0,n=>by simp[dH]
 |w+1,n=>by
  rw[dH,DJ w (n / 256),Nat.div_div_eq_div_mul,Nat.pow_succ',List.cons_append];rfl
def Pv (a b:Int):Int:=(a*256+b) % 18446744073709551616
def iy (l:List Int):Int:=l.foldl Pv 0
theorem xi (l:List Int) (b:Int):iy (l++[b])=Pv (iy l) b:=by
 unfold iy;rw[List.foldl_append];rfl
theorem l7 (l:List Int):0≤iy l∧iy l<18446744073709551616:=by
 rcases List.eq_nil_or_concat l with rfl |⟨m,b,rfl⟩
 ·exact⟨by decide,by decide⟩
 ·rw[List.concat_eq_append,xi];unfold Pv;omega
theorem I2:∀(k:Nat) (l:List Int),l.length=k→k≤8→(∀x∈l,0≤x∧x<256)→iy l<(256:Int) ^ k
 |0,l,hl,_,_=>by obtain rfl:=List.length_eq_zero_iff.1 hl;decide
 |k+1,l,hl,hk,hb=>by
  rcases List.eq_nil_or_concat l with rfl |⟨m,b,rfl⟩
  ·simp at hl
  ·rw[List.concat_eq_append]at hl hb ⊢;rw[List.length_append]at hl;have h1:=I2 k m (by simpa using hl) om fun x hx=>hb x (List.mem_append_left _ hx);have h2:=hb b (by simp);have h0:=l7 m;rw[xi];unfold Pv;rw[Int.pow_succ];have:(iy m*256+b) % 18446744073709551616≤iy m*256+b:=by omega
   omega
theorem Xj (l:List Int) (h:l.length≤8) (hb:∀x∈l,0≤x∧x<256):iy l<(256:Int) ^ l.length:=I2 _ l rfl h hb
theorem TI (n i:Nat) (h:i<9):Re .shr .u64 .i64 (n:Int) (IntKind.i64.wrap (8*(i:Int)))=some (.int .u64 ((n / 256 ^ i:Nat):Int)):=by
 have hw:IntKind.i64.wrap (8*(i:Int))=((8*i:Nat):Int):=by rw[IntWalk.i64_in _ om];simp
 rw[hw];show e8 (Op.shift .shr .u64 (n:Int) .i64 ((8*i:Nat):Int))=_;unfold Op.shift;rw[if_neg om,Int.toNat_natCast];have hm:min (8*i) IntKind.u64.bits=8*i∨i=8:=by
  show min (8*i) 64=_∨_;omega
 have e2:(2:Nat) ^ (8*i)=256 ^ i:=by rw[Nat.pow_mul]
 have Yv:min (8*i) IntKind.u64.bits=8*i:=by
  show min (8*i) 64=_;omega
 rw[Yv];show some (Value.int .u64 ((n:Int).fdiv (2 ^ (8*i))))=_
 congr 2
 rw[show((2:Int) ^ (8*i))=((256 ^ i:Nat):Int)from by rw[←e2];simp];exact(Int.ofNat_fdiv n (256 ^ i)).symm
theorem or_eq (a b:Int) (ha:0≤a) (hb:0≤b∧b<256):IntKind.u64.wrap ((BitVec.ofInt 64 (IntKind.u64.wrap (a*256))|||BitVec.ofInt 64 b).toNat:Int)=Pv a b:=by
 obtain⟨A,rfl⟩:∃A:Nat,a=A:=⟨a.toNat,om⟩;obtain⟨B,rfl⟩:∃B:Nat,b=B:=⟨b.toNat,om⟩;have hB:B<2 ^ 8:=by omega
 have e1:IntKind.u64.wrap ((A:Int)*256)=(((A % 2 ^ 56)<<<8:Nat):Int):=by
  rw[IntKind.wrap_u64,Nat.shiftLeft_eq];omega
 rw[e1];have e2:(BitVec.ofInt 64 (((A % 2 ^ 56)<<<8:Nat):Int)|||BitVec.ofInt 64 (B:Int)).toNat=(A % 2 ^ 56)<<<8+B:=by
  rw[BitVec.toNat_or,BitVec.toNat_ofInt,BitVec.toNat_ofInt];have h1:(A % 2 ^ 56)<<<8<2 ^ 64:=by rw[Nat.shiftLeft_eq];omega
  rw[Nat.shiftLeft_add_eq_or_of_lt hB]
  congr 1
  ·omega
  ·omega
 rw[e2,IntKind.wrap_u64,Nat.shiftLeft_eq];unfold Pv;omega
structure cW where
 b:List Int
 e:Int
def cW.next (s:cW) (n:Nat):cW×Option (List Int):=
 if s.e≠0 then(s,none)else if s.b.length<n then(⟨[],3⟩,none)else(⟨s.b.drop n,0⟩,some (s.b.take n))
def cW.upto (s:cW) (w:Nat) (m:Int):cW×Int:=
 match s.next w with
 |(s',none)=>(s',0)
 |(s',some b)=>if iy b>m then(⟨[],4⟩,0)else(s',iy b)
def cW.get (s:cW) (w:Nat):cW×Int:=s.upto w 18446744073709551615
def cW.raw (s:cW) (n:Nat):cW×List Int:=((s.next n).1,((s.next n).2).getD [])
theorem cW.l8 {s:cW} {n:Nat} (h:∀x∈s.b,0≤x∧x<256):(∀x∈(s.next n).1.b,0≤x∧x<256)∧∀l,(s.next n).2=some l→∀x∈l,0≤x∧x<256:=by
 unfold cW.next;split
 ·exact⟨h,fun l hl=>by cases hl⟩
 ·split
  ·exact⟨by simp,fun l hl=>by cases hl⟩
  ·exact⟨fun x hx=>h x (List.mem_of_mem_drop hx),fun l hl=>by cases hl;exact fun x hx=>h x (List.mem_of_mem_take hx)⟩
theorem cW.pG {s:cW} {n:Nat} {m:Int} (h:∀x∈s.b,0≤x∧x<256):∀x∈(s.upto n m).1.b,0≤x∧x<256:=by
 have hn:=(cW.l8 (n:=n) h).1;unfold cW.upto;split
 ·rename_i s' e;rw[e]at hn;exact hn
 ·rename_i s' b e;rw[e]at hn;split
  ·simp
  ·exact hn
theorem cW.uE {s:cW} {n:Nat} {m:Int}:0≤(s.upto n m).2∧(s.upto n m).2<18446744073709551616:=by
 unfold cW.upto;split
 ·exact⟨Int.le_refl 0,by show(0:Int)<_;decide⟩
 ·split
  ·exact⟨Int.le_refl 0,by show(0:Int)<_;decide⟩
  ·exact l7 _
theorem cW.Nm {s:cW} {n:Nat} {m:Int} (hm:0≤m):(s.upto n m).2≤m:=by
 unfold cW.upto;split
 ·exact hm
 ·split
  ·exact hm
  ·rename_i h;exact Int.not_lt.1 h
theorem cW.vV {s:cW} {n:Nat} {l:List Int} (h:(s.next n).2=some l):l.length=n:=by
 unfold cW.next at h;split at h
 ·cases h
 ·split at h
  ·cases h
  ·cases h;rw[List.length_take];omega
end Go.M
namespace Go.M
open Go Go.Proofs
set_option maxRecDepth 100000
set_option maxHeartbeats 4000000
theorem xj (l:List Int) (hl:l.length<1000000):VC E0 81 0 [.sl 1 (l.map fg) false] [] (RR (.sl 1 (l.map fg) false) 0 []):=by
 refine en L0 Tryz.f81 ?_;refine⟨fun h=>?_,?_⟩
 ·have h:l=[]:=by simpa using h
  subst h;refine wh ?_;exact⟨[],[],_,_,_,t3,rfl,rfl,rfl⟩
 ·refine wh ?_;refine⟨by simp;omega,?_⟩;refine wh ?_;exact⟨[1],[],_,_,_,t3,rfl,rfl,rfl⟩
theorem I3 (w:Nat) (h1:1≤w) (h8:w≤8):VC E0 69 0 [.s (.int .i64 w)] [] (RR (.s (.bool true)) 0 []):=by
 refine en L0 Tryz.f69 ?_;refine sp ?_ ?_<;>intro h
 ·refine wh ?_;refine sp ?_ ?_<;>intro h'
  ·refine wh ?_;exact⟨[],[],_,_,_,t3,rfl,rfl,rfl⟩
  ·exact absurd (show(w:Int)≤8 by omega) h'
 ·exact absurd (show(w:Int)≥1 by omega) h
theorem I4 (w i n:Nat) (h:i<w):((List.replicate (w - i) (0:Int)++dH i n).map fg).set (w - 1 - i) (fg ((n / 256 ^ i % 256:Nat):Int))=(List.replicate (w - (i+1)) (0:Int)++dH (i+1) n).map fg:=by
 have e:w - i=(w - (i+1))+1:=by omega
 rw[←List.map_set,e,List.replicate_succ',List.append_assoc,List.set_append_right _ _ (by simp;omega),DJ]
 congr 2
 rw[List.length_replicate,show w - 1 - i - (w - (i+1))=0 by omega];rfl
theorem TJ (w i n:Nat) (h:i<w):((List.replicate (w - i) (0:Int)++dH i n).map fg)[w - 1 - i]? =some (fg 0):=by
 have e:w - i=(w - (i+1))+1:=by omega
 rw[e,List.replicate_succ',List.append_assoc,List.map_append,List.getElem?_append_right (by simp;omega)];simp;rw[show w - 1 - i - (w - (i+1))=0 by omega];rfl
theorem Nn (n:Nat) (w:Nat) (h1:1≤w) (h8:w≤8):VC E0 73 0 [.s (.int .u64 n),.s (.int .i64 w)] [] (RR (.tk 0) 1 [(0,.arr 1 true ((dH w n).map fg))]):=by
 refine en L0 Tryz.f73 ?_;refine⟨⟨om,om,om⟩,?_⟩;refine wh ?_;refine⟨fun k f o c=>∃i:Nat,i≤w∧k=w - i∧c=1∧f=[(0,.s (.int .u64 n)),(1,.s (.int .i64 w)),(5,.tk 0),(10,.s (.int .i64 w)),(11,.s (.int .i64 i))]∧o=[(0,.arr 1 true ((List.replicate (w - i) 0++dH i n).map fg))],⟨w,?_⟩,?_⟩
 ·refine⟨[],[some 0],?_⟩
  iterate 3 constructor
  refine⟨⟨?_,?_,?_⟩,⟨0,Nat.zero_le _,rfl,rfl,rfl,rfl⟩⟩
  all_goals(repeat' first|exact LF|constructor)
  all_goals first|exact Lz.int (by simp)|exact Lz.of (by simp[dH];exact .inr rfl)|trace_state
 ·rintro k f1 o1 c1 ⟨i,hi,rfl,rfl,rfl,rfl⟩;refine wh ?_;refine sp ?_ ?_<;>intro h
  ·have h:i<w:=by have:(i:Int)<w:=h
                  omega
   refine wh ?_;rw[TI n i om];refine wh ?_;have hw:IntKind.i64.wrap (IntKind.i64.wrap ((w:Int) - 1) - (i:Int))=((w - 1 - i:Nat):Int):=by
    rw[IntWalk.i64_in _ (by rw[IntWalk.i64_in _ om];omega),IntWalk.i64_in _ om];omega
   refine⟨by rw[hw];simp[cE];omega,?_⟩;refine wh ?_;refine⟨fg 0,by rw[hw,Int.toNat_natCast];exact TJ w i n h,?_⟩;refine wh ?_;refine⟨w - (i+1),?_,om⟩;refine⟨[],[some 0],?_⟩
   iterate 3 constructor
   refine⟨⟨?_,?_,?_⟩,⟨i+1,h,rfl,rfl,rfl,rfl⟩⟩
   all_goals(repeat' first|exact LF|constructor)
   all_goals first|exact Lw.of (by rw[hw,Int.toNat_natCast,←I4 w i n h,IntKind.wrap_u8];simp)|exact Lz.of (by rw[hw,Int.toNat_natCast,←I4 w i n h,IntKind.wrap_u8];simp)|trace_state
  ·have zO:i=w:=by have:¬(i:Int)<w:=h
                   omega
   subst zO;rw[Nat.sub_self];refine wh ?_;exact⟨[],[some 0],_,_,_,t3,rfl,rfl,rfl⟩
theorem Xk (n:Nat) (w:Nat) (h1:1≤w) (h8:w≤8) (hn:n<18446744073709551616):VC E0 71 0 [.s (.int .u64 n),.s (.int .i64 w)] [] (RR (.s (.bool (decide (n<256 ^ w)))) 0 []):=by
 refine en L0 Tryz.f71 ?_;refine sp ?_ ?_<;>intro h
 ·have h:w=8:=by have:(w:Int)=8:=h
                 omega
  subst h;refine wh ?_;refine⟨[],[],_,_,_,tx ?_,rfl,rfl,rfl⟩;exact Lz.of (aX (decide_eq_true (show n<256 ^ 8 by omega)).symm)
 ·refine wh ?_;rw[TI n w om];refine wh ?_;refine sp ?_ ?_<;>intro h0
  ·have h0:((n / 256 ^ w:Nat):Int)=0:=h0;refine wh ?_;refine⟨[],[],_,_,_,tx ?_,rfl,rfl,rfl⟩;exact Lz.of (aX (decide_eq_true (show n<256 ^ w from(Nat.div_eq_zero_iff_lt (Nat.pow_pos (by decide))).1 om)).symm)
  ·have h0:¬((n / 256 ^ w:Nat):Int)=0:=h0;refine wh ?_;refine⟨[],[],_,_,_,tx ?_,rfl,rfl,rfl⟩;exact Lz.of (aX (decide_eq_false (fun q=>h0 (by rw[(Nat.div_eq_zero_iff_lt (Nat.pow_pos (by decide))).2 q];rfl))).symm)
structure fx where
 b:List Int
 jU:Int
 e:Int
def fx.fail (s:fx) (e:Int):fx:=if s.e=0 then⟨s.b,s.jU,e⟩else s
def fx.put (s:fx) (x:List Int):fx:=if s.e≠0 then s else if(x.length:Int)>s.jU - s.b.length then⟨s.b,s.jU,6⟩else⟨s.b++x,s.jU,0⟩
def fx.num (s:fx) (n w:Nat):fx:=if n<256 ^ w then s.put (dH w n)else s.fail 4
structure fx.ok (s:fx):Prop where
 m:0≤s.jU∧s.jU≤1048576
 l:(s.b.length:Int)≤s.jU
@[reducible] def uF (s:fx):TO:=.cells [.own (.arr 1 true (s.b.map fg)),.s (.int .i64 s.jU),.s (.int .i64 s.e)]
theorem aa9 (m:Nat):VC E0 34 0 [.s (.int .i64 m)] [] (RR (.ptr 0 0) 1 [(0,uF ⟨[],m,0⟩)]):=by
 refine en L0 Tryz.f34 ?_;refine⟨[],[some 0],?_⟩
 iterate 3 constructor
 refine⟨⟨?_,?_,?_⟩,rfl,rfl,rfl⟩
 all_goals(repeat' first|exact LF|constructor)
 all_goals exact Lz.int (if_neg om)
theorem Bs (s:fx) (e:Int):VC E0 70 1 [.ptr 0 0,.s (.int .i64 e)] [(0,uF s)] (RR (.cB []) 1 [(0,uF (s.fail e))]):=by
 refine en L0 Tryz.f70 ?_;refine sp ?_ ?_<;>intro h
 ·have h:s.e=0:=h;rw[show s.fail e=⟨s.b,s.jU,e⟩from if_pos h];refine wh ?_;exact⟨[],[some 0],_,_,_,t3,rfl,rfl,rfl⟩
 ·have h:¬s.e=0:=h;rw[show s.fail e=s from if_neg h];refine wh ?_;exact⟨[],[some 0],_,_,_,t3,rfl,rfl,rfl⟩
theorem TK (s:fx) (x:List Int) (hs:s.ok) (hx:s.b.length+x.length≤1000000):VC E0 72 1 [.ptr 0 0,.sl 1 (x.map fg) false] [(0,uF s)] (RR (.cB []) 1 [(0,uF (s.put x))]):=by
 obtain⟨⟨m0,m1⟩,hl⟩:=hs;refine en L0 Tryz.f72 ?_;refine sp ?_ ?_<;>intro h
 ·have h:s.e≠0:=h;rw[show s.put x=s from if_pos h];refine wh ?_;exact⟨[],[some 0],_,_,_,t3,rfl,rfl,rfl⟩
 ·have h:¬s.e≠0:=h;have h0:s.e=0:=by omega
  refine wh ?_;refine sp ?_ ?_<;>intro h2
  ·have h2:(x.length:Int)>s.jU - s.b.length:=by
    have:(((x.map fg).length:Nat):Int)>IntKind.i64.wrap (s.jU - (((s.b.map fg).length:Nat):Int)):=h2;rw[List.length_map,List.length_map,IntWalk.i64_in _ om]at this;exact this
   rw[show s.put x=s.fail 6 from by unfold fx.put fx.fail;rw[if_neg h,if_pos h2,if_pos h0]];refine wh ?_;refine⟨[],[some 0],_,_,_,_,Bs s 6,t3,cw ?_⟩;exact⟨[],[some 0],_,_,_,t3,rfl,rfl,rfl⟩
  ·have h2:¬(x.length:Int)>s.jU - s.b.length:=by
    have:¬(((x.map fg).length:Nat):Int)>IntKind.i64.wrap (s.jU - (((s.b.map fg).length:Nat):Int)):=h2;rw[List.length_map,List.length_map,IntWalk.i64_in _ om]at this;exact this
   rw[show s.put x=⟨s.b++x,s.jU,0⟩from by unfold fx.put;rw[if_neg h,if_neg h2]];refine wh ?_;refine⟨by simp;omega,?_⟩;refine wh ?_;refine⟨[],[some 0],?_⟩
   iterate 3 constructor
   refine⟨⟨?_,?_,?_⟩,rfl,rfl,rfl⟩
   all_goals(repeat' first|exact LF|constructor)
   all_goals first|exact Lz.int h0|exact Lw.of (by simp)|exact Lz.of (by simp)|trace_state
theorem aba (s:fx) (n w:Nat) (hs:s.ok) (hx:s.b.length≤900000) (h1:1≤w) (h8:w≤8) (hn:n<18446744073709551616):VC E0 35 1 [.ptr 0 0,.s (.int .u64 n),.s (.int .i64 w)] [(0,uF s)] (RR (.cB []) 1 [(0,uF (s.num n w))]):=by
 have hf:=Xk n w h1 h8 hn;refine en L0 Tryz.f35 ?_;refine⟨[],[],_,_,_,_,I3 w h1 h8,t3,cw ?_⟩;by_cases h:n<256 ^ w
 ·rw[show s.num n w=s.put (dH w n)from if_pos h];rw[decide_eq_true h]at hf;refine⟨[],[],_,_,_,_,hf,t3,cw ?_⟩;refine⟨[],[],_,_,_,_,Nn n w h1 h8,t3,cw ?_⟩;refine⟨[1],[some 0],_,_,_,_,TK s (dH w n) hs (by rw[cE];omega),t3,cw ?_⟩;exact⟨[],[some 0],_,_,_,t3,rfl,rfl,rfl⟩
 ·rw[show s.num n w=s.fail 4 from if_neg h];rw[decide_eq_false h]at hf;refine⟨[],[],_,_,_,_,hf,t3,cw ?_⟩;refine⟨[],[some 0],_,_,_,_,Bs s 4,t3,cw ?_⟩;exact⟨[],[some 0],_,_,_,t3,rfl,rfl,rfl⟩
theorem Xl (s:fx) (hs:s.ok) (hx:s.b.length≤900000):VC E0 40 1 [.ptr 0 0] [(0,uF s)] (RR (.cB [.sl 1 ((if s.e=0 then s.b else []).map fg) false,.s (.int .i64 s.e)]) 1 []):=by
 obtain⟨⟨m0,m1⟩,hl⟩:=hs;refine en L0 Tryz.f40 ?_;refine sp ?_ ?_<;>intro h
 ·have h:s.e≠0:=h;rw[if_neg h];refine wh ?_;exact⟨[],[some 0],_,_,_,t3,rfl,rfl,rfl⟩
 ·have h:s.e=0:=Classical.not_not.1 h;rw[if_pos h];refine wh ?_;refine⟨[1],[],_,_,_,_,xj s.b om,t3,cw ?_⟩;refine⟨[],[some 0],?_⟩
  iterate 3 constructor
  refine⟨⟨?_,?_,?_⟩,rfl,rfl,rfl⟩
  all_goals(repeat' first|exact LF|constructor)
  all_goals exact Lz.int h.symm
end Go.M
