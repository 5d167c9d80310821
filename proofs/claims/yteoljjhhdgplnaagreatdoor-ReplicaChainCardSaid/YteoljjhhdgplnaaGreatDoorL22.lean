/-
  Part 22 of the library that the proof leans on.
-/
import Derived.Test.YteoljjhhdgplnaaGreatDoorL12
import Derived.Test.YteoljjhhdgplnaaGreatDoorL21
import Derived.Test.YteoljjhhdgplnaaGreatDoorL17
namespace Go.M
open Go Go.Proofs
set_option maxRecDepth 100000
set_option maxHeartbeats 4000000
theorem Ah (k:Int):VC E0 185 0 [.s (.int .i64 k)] [] (RR (.s (.bool (uV k))) 0 []):=by
 refine en L0 Tryz.f185 ?_
 repeat'(first|((first|(refine⟨fun h=>?_,fun h=>?_⟩)|(refine ba (fun h=>?_) (fun h=>?_))|(refine a9 (fun h=>?_) (fun h=>?_)))<;>(conv=>whnf)))
 all_goals(refine⟨[],[],[],_,_,⟨?_,.nil,rfl⟩,rfl,rfl,rfl⟩)
 all_goals(refine .s (Lz.of (aT ?_)))
 all_goals(unfold uV;simp_all)
theorem UL (u:bo):VC E0 184 0 [.agg (b7 u),.s (.int .i64 12)] [] (RR (.s (.int .i64 (o9 u))) 0 []):=by
 refine en L0 Tryz.f184 ?_;refine⟨[],[],_,_,_,_,Ah u.kind,t3,?_⟩;rintro r o' c' ⟨rfl,rfl,rfl⟩;have eo:=True.intro;clear eo;cases hk:uV u.kind
 ·refine wh ?_;refine⟨[],[],_,_,_,tx ?_,rfl,rfl,rfl⟩;exact Lz.int (by simp[o9,hk])
 ·refine wh ?_;refine sp ?_ ?_<;>intro hl
  ·have hl:2048<u.data.length:=by simp[bM]at hl;omega
   refine wh ?_;refine⟨[],[],_,_,_,tx ?_,rfl,rfl,rfl⟩;exact Lz.int (by simp[o9,hk,hl])
  ·have hl:¬2048<u.data.length:=by simp[bM]at hl;omega
   refine wh ?_;refine⟨[1],[],_,_,_,_,QE u,t3,cw ?_⟩;refine⟨[],[],_,_,_,tx ?_,rfl,rfl,rfl⟩;exact Lz.int (by simp[o9,hk,hl])
theorem xX (u:bo):VC E0 145 0 [.agg (b7 u)] [] (RR (.s (.int .i64 (o9 u))) 0 []):=by
 refine en L0 Tryz.f145 ?_;refine⟨[],[],_,_,_,_,UL u,t3,cw ?_⟩;exact⟨[],[],_,_,_,t3,rfl,rfl,rfl⟩
structure Nr (u:bo):Prop where
 seq:0≤u.seq∧u.seq≤18446744073709551615
 num:0≤u.num∧u.num≤18446744073709551615
 cB:0≤u.cB∧u.cB≤18446744073709551615
 key:0≤u.key∧u.key≤4294967295
@[reducible] def UM (q:Int×Int×Bool):TV:=.cY [.s (.int .i64 q.1),.s (.int .u64 q.2.1),.s (.bool q.2.2)]
theorem abF {n:Int} (h:0≤n∧n<18446744073709551615):IntKind.u64.wrap (n+1)=n+1:=IntWalk.u64_in _ om
theorem Gt (u:bo) (cB:Int) (room:Bool) (hv:0≤cB∧cB≤18446744073709551615):VC E0 146 0 [.agg (b7 u),.s (.int .u64 cB),.s (.bool room)] [] (RR (UM (xJ u cB room)) 0 []):=by
 refine en L0 Tryz.f146 ?_;refine⟨[],[],_,_,_,_,Ah u.kind,t3,?_⟩;rintro r o' c' ⟨rfl,rfl,rfl⟩;have eo:=True.intro;clear eo;cases hk:uV u.kind
 ·refine wh ?_;refine⟨[],[],?_⟩
  iterate 3 constructor
  refine⟨⟨?_,?_,?_⟩,rfl,rfl,rfl⟩
  all_goals(repeat' first|exact LF|constructor)
  all_goals first|exact Lz.int (by simp[xJ,hk])|exact Lz.of (aT (by simp[xJ,hk]))
 ·cases room
  all_goals
   refine wh ?_
   repeat'(first|((first|(refine⟨fun h=>?_,fun h=>?_⟩)|(refine ba (fun h=>?_) (fun h=>?_))|(refine a9 (fun h=>?_) (fun h=>?_)))<;>(conv=>whnf)))
   all_goals(refine⟨[],[],[],_,_,⟨?_,.nil,rfl⟩,rfl,rfl,rfl⟩)
   all_goals(refine .cY (.cons (.s (Lz.int ?_)) (.cons (.s (Lz.int ?_)) (.cons (.s (Lz.of (aT ?_))) .nil))))
   all_goals(unfold xJ;simp_all;try first|exact abF om|rfl |omega)
@[reducible] def kN (v:Vs):List TV:=[.s (.int .u64 v.cB),.s (.int .u64 v.seq),.sl 1 (bM v.data) false]
theorem pg (ns:List Int) (hl:ns.length<1000000):VC E0 117 0 [.sl 1 (bM ns) false] [] (RR (.sl 1 (bM ns) false) 0 []):=by
 refine en L0 Tryz.f117 ?_;refine⟨fun h0=>?_,?_⟩
 ·refine wh ?_;refine⟨[],[],_,_,_,tx ?_,rfl,rfl,rfl⟩;exact Lz.of h0.symm
 ·refine wh ?_;refine⟨by simp[bM];omega,?_⟩;refine wh ?_;refine⟨[1],[],?_⟩
  iterate 3 constructor
  refine⟨⟨?_,?_,?_⟩,rfl,rfl,rfl⟩
  all_goals(repeat' first|exact LF|constructor)
  all_goals exact Lz.of rfl
theorem Ii (u:bo) (cB:Int) (hl:u.data.length<1000000):VC E0 148 0 [.agg (b7 u),.s (.int .u64 cB)] [] (RR (.agg (kN ⟨cB,u.seq,u.data⟩)) 0 []):=by
 refine en L0 Tryz.f148 ?_;refine⟨[],[],_,_,_,_,pg u.data hl,t3,cw ?_⟩;exact⟨[],[],_,_,_,t3,rfl,rfl,rfl⟩
@[reducible] def QF (vs:List Vs):TO:=.cells [.own (.arr 3 true (vs.map kN))]
@[reducible] def D8 (vs:List Vs):Ob:=[(0,QF vs)]
structure Sx (v:Vs):Prop where
 cB:0≤v.cB∧v.cB≤18446744073709551615
 seq:0≤v.seq∧v.seq≤18446744073709551615
 len:v.data.length≤2048
theorem QG:VC E0 186 0 [] [] (RR (.ptr 0 0) 1 (D8 [])):=by
 refine en L0 Tryz.f186 ?_;exact⟨[],[some 0],_,_,_,t3,rfl,rfl,rfl⟩
theorem Gu (v:Vs) (hl:v.data.length<1000000):VC E0 164 0 [.agg (kN v)] [] (RR (.agg (kN v)) 0 []):=by
 refine en L0 Tryz.f164 ?_;refine⟨[],[],_,_,_,_,pg v.data hl,t3,cw ?_⟩;exact⟨[],[],_,_,_,t3,rfl,rfl,rfl⟩
theorem Ij (vs:List Vs):VC E0 114 1 [.ptr 0 0] (D8 vs) (RR (.s (.int .i64 vs.length)) 1 (D8 vs)):=by
 refine en L0 Tryz.f114 ?_;refine⟨[],[some 0],?_⟩
 iterate 3 constructor
 refine⟨⟨?_,?_,?_⟩,rfl,rfl,rfl⟩
 all_goals(repeat' first|exact LF|constructor)
 all_goals exact Lz.int (by simp)
theorem Nt {vs:List Vs} {j:Nat} (h:j<vs.length):MP vs j=vs[j]:=by
 unfold MP;rw[if_pos om];simp[List.getD,h]
theorem QH {vs:List Vs} {i:Int} (h:i<0∨vs.length≤i):MP vs i=fS:=by
 unfold MP;split
 ·rw[List.getD,List.getElem?_eq_none om];rfl
 ·rfl
theorem QI (vs:List Vs) (i:Int) (h:i<0∨vs.length≤i):VC E0 113 1 [.ptr 0 0,.s (.int .i64 i)] (D8 vs) (RR (.agg (kN fS)) 1 (D8 vs)):=by
 refine en L0 Tryz.f113 ?_;refine sp ?_ ?_<;>intro h0
 ·refine wh ?_;exact⟨[],[some 0],_,_,_,t3,rfl,rfl,rfl⟩
 ·have h0:¬i<0:=h0;refine wh ?_;refine sp ?_ ?_<;>intro h1
  ·refine wh ?_;exact⟨[],[some 0],_,_,_,t3,rfl,rfl,rfl⟩
  ·have h1:¬i≥(((vs.map kN).length:Nat):Int):=h1;rw[List.length_map]at h1;omega
theorem UN (vs:List Vs) (j:Nat) (h:j<vs.length) (hl:∀v∈vs,Sx v):VC E0 113 1 [.ptr 0 0,.s (.int .i64 j)] (D8 vs) (RR (.agg (kN vs[j])) 1 (D8 vs)):=by
 have hv:=hl _ (List.getElem_mem h);refine en L0 Tryz.f113 ?_;refine sp ?_ ?_<;>intro h0
 ·have h0:(j:Int)<0:=h0;omega
 ·refine wh ?_;refine sp ?_ ?_<;>intro h1
  ·have h1:(j:Int)≥(((vs.map kN).length:Nat):Int):=h1;rw[List.length_map]at h1;omega
  ·refine wh ?_;refine⟨by simp;omega,?_⟩;refine wh ?_;refine⟨kN vs[j],by simp[h],?_⟩;refine wh ?_;refine⟨[1],[],_,_,_,_,Gu vs[j] (by have:=hv.len;omega),t3,cw ?_⟩;exact⟨[],[some 0],_,_,_,t3,rfl,rfl,rfl⟩
theorem UO (vs:List Vs) (i:Int) (hl:∀v∈vs,Sx v):VC E0 113 1 [.ptr 0 0,.s (.int .i64 i)] (D8 vs) (RR (.agg (kN (MP vs i))) 1 (D8 vs)):=by
 by_cases h:0≤i∧i<vs.length
 ·obtain⟨j,rfl⟩:∃j:Nat,i=j:=⟨i.toNat,om⟩;rw[Nt (j:=j) om];exact UN vs j om hl
 ·rw[QH om];exact QI vs i om
theorem Nu (vs:List Vs) (hl:∀v∈vs,Sx v) (hn:vs.length<1000000):VC E0 79 1 [.ptr 0 0] (D8 vs) (RR (.agg (kN (du vs))) 1 (D8 vs)):=by
 refine en L0 Tryz.f79 ?_;refine⟨[],[some 0],_,_,_,_,Ij vs,t3,cw ?_⟩;rw[show IntKind.i64.wrap ((vs.length:Int) - 1)=(vs.length:Int) - 1 from IntWalk.i64_in _ om];refine⟨[],[some 0],_,_,_,_,UO vs ((vs.length:Int) - 1) hl,t3,cw ?_⟩;exact⟨[],[some 0],_,_,_,t3,rfl,rfl,rfl⟩
theorem xY (vs:List Vs):vs=[]∨∃ws w,vs=ws++[w]:=by
 rcases List.eq_nil_or_concat vs with h|⟨ws,w,h⟩
 ·exact .inl h
 ·exact .inr ⟨ws,w,by simpa using h⟩
theorem hH (ws:List Vs) (w:Vs):du (ws++[w])=w:=by
 show MP (ws++[w]) _=w;rw[show(((ws++[w]).length:Nat):Int) - 1=((ws.length:Nat):Int)from by simp,Nt (by simp)];simp
theorem Ik (vs:List Vs) (v:Vs) (hv:0≤v.cB∧v.cB≤18446744073709551615) (hn:vs.length<100000):VC E0 187 1 [.ptr 0 0,.agg (kN v)] (D8 vs) (RR (.s (.int .i64 (oh vs v))) 1 (D8 (kK vs v))):=by
 refine en L0 Tryz.f187 ?_;refine sp ?_ ?_<;>intro h0
 ·have h0:2048<v.data.length:=by simp[bM]at h0;omega
  rw[show kK vs v=vs from by simp[kK,oh,h0]];refine wh ?_;refine⟨[],[some 0],_,_,_,tx ?_,rfl,rfl,rfl⟩;exact Lz.int (by simp[oh,h0])
 ·have h0:¬2048<v.data.length:=by simp[bM]at h0;omega
  refine wh ?_;by_cases h1:v.cB=0∨v.seq=0
  ·rw[show kK vs v=vs from by simp[kK,oh,h0,h1]]
   repeat'(first|((first|(refine⟨fun h=>?_,fun h=>?_⟩)|(refine ba (fun h=>?_) (fun h=>?_))|(refine a9 (fun h=>?_) (fun h=>?_)))<;>((conv=>whnf)<;>repeat(with_reducible refine D1 ?_)<;>conv=>whnf)))
   all_goals first|(exfalso;omega)|skip
   all_goals
    refine⟨[],[some 0],_,_,_,tx ?_,rfl,rfl,rfl⟩;exact Lz.int (by simp[oh,h0,h1])
  ·obtain⟨h1,h2⟩:=not_or.1 h1;refine sp ?_ ?_<;>intro h3
   ·exact absurd h3 h1
   ·refine wh ?_;refine sp ?_ ?_<;>intro h4
    ·exact absurd h4 h2
    ·refine wh ?_;obtain rfl |⟨ws,w,rfl⟩:=xY vs
     ·refine sp ?_ ?_<;>intro h5
      ·exact absurd h5 (by simp)
      ·rw[show kK [] v=[]++[v]from by simp[kK,oh,h0,h1,h2]];refine wh ?_;refine⟨[],[],_,_,_,_,Gu v om,t3,cw ?_⟩;refine⟨by simp,?_⟩;refine wh ?_;refine⟨[],[some 0],?_⟩
       iterate 3 constructor
       refine⟨⟨?_,?_,?_⟩,rfl,rfl,rfl⟩
       all_goals(repeat' first|exact LF|constructor)
       all_goals exact Lz.int (by simp[oh,h0,h1,h2])
     ·refine sp ?_ ?_<;>intro h5
      ·have hn:ws.length+1<100000:=by simpa using hn
       have hw:IntKind.i64.wrap ((((ws++[w]).map kN).length:Int) - 1)=((ws.length:Nat):Int):=by rw[IntWalk.i64_in _ (by simp;omega)];simp
       have hs:IntKind.u64.wrap (v.cB - 1)=v.cB - 1:=IntWalk.u64_in _ om;have hx:((ws++[w]).map kN)[(IntKind.i64.wrap ((((ws++[w]).map kN).length:Int) - 1)).toNat]? =some (kN w):=by rw[hw];simp
       refine wh ?_;refine⟨by rw[hw];simp;omega,?_⟩;refine wh ?_;refine⟨kN w,hx,?_⟩;refine wh ?_;refine sp ?_ ?_<;>intro h6
       ·have h6:v.cB - 1≠w.cB:=by rw[←hs];exact h6
        rw[show kK (ws++[w]) v=ws++[w]from by simp[kK,oh,h0,h1,h2,hH,h6]];refine wh ?_;refine⟨[],[some 0],_,_,_,tx ?_,rfl,rfl,rfl⟩;exact Lz.int (by simp[oh,h0,h1,h2,hH,h6])
       ·have h6:v.cB - 1=w.cB:=by rw[←hs];exact Decidable.not_not.1 h6
        refine wh ?_;refine⟨by rw[hw];simp;omega,?_⟩;refine wh ?_;refine⟨kN w,hx,?_⟩;refine wh ?_;refine sp ?_ ?_<;>intro h7
        ·have h7:v.seq≤w.seq:=h7;rw[show kK (ws++[w]) v=ws++[w]from by simp[kK,oh,h0,h1,h2,hH,h7]];refine wh ?_;refine⟨[],[some 0],_,_,_,tx ?_,rfl,rfl,rfl⟩;exact Lz.int (by simp[oh,h0,h1,h2,hH,h7])
        ·have h7:¬v.seq≤w.seq:=h7;rw[show kK (ws++[w]) v=ws++[w]++[v]from by simp[kK,oh,h0,h1,h2,hH,h6,h7]];refine wh ?_;refine⟨[],[],_,_,_,_,Gu v om,t3,cw ?_⟩;refine⟨by simp;omega,?_⟩;refine wh ?_;refine⟨[],[some 0],?_⟩
         iterate 3 constructor
         refine⟨⟨?_,?_,?_⟩,rfl,rfl,rfl⟩
         all_goals(repeat' first|exact LF|constructor)
         ·exact Lz.int (by simp[oh,h0,h1,h2,hH,h6,h7])
         ·exact Lz.of (by simp)
      ·exact absurd (show(0:Int)<((((ws++[w]).map kN).length:Nat):Int) by simp) h5
theorem UP (i j:Nat) (h:i<j) (hj:j<1000000):IntKind.i64.wrap (Int.fdiv (IntKind.u64.wrap (IntKind.i64.wrap ((i:Int)+j))) (2 ^ min (Int.toNat 1) IntKind.u64.bits))=(((i+j) / 2:Nat):Int):=by
 rw[IntWalk.i64_in ((i:Int)+j) om,IntWalk.u64_in _ om];rw[show(2:Int) ^ min (Int.toNat 1) IntKind.u64.bits=2 from by decide];rw[Int.fdiv_eq_ediv_of_nonneg _ (by decide),IntWalk.i64_in _ om];omega
theorem Nv {p:Nat→Bool} {i j:Nat} (h:i<j) (hp:p ((i+j) / 2)=true):nG p i j=nG p i ((i+j) / 2):=by
 rw[nG,dif_pos h,if_pos hp]
theorem Nw {p:Nat→Bool} {i j:Nat} (h:i<j) (hp:p ((i+j) / 2)=false):nG p i j=nG p ((i+j) / 2+1) j:=by
 rw[nG,dif_pos h,if_neg (by rw[hp];exact Bool.false_ne_true)]
theorem Gv {p:Nat→Bool} {i j:Nat} (h:¬i<j):nG p i j=i:=by
 rw[nG,dif_neg h]
@[reducible] def UQ (vs:List Vs) (d:Int):Ob:=[(0,QF vs),(1,.cells [.ptr 0 0]),(2,.cells [.s (.int .u64 d)])]
theorem J1 (g:Nat) (vs:List Vs) (d:Int) (p:Nat→Bool) (n:Nat) (hn:n<1000000)
 (hg:∀k<n,VC E0 g 3 [.s (.int .i64 k),.ptr 1 0,.ptr 2 0] (UQ vs d) (RR (.s (.bool (p k))) 3 (UQ vs d))):
 VC E0 207 3 [.s (.int .i64 n),.dc g [] [.ptr 1 0,.ptr 2 0]] (UQ vs d) (RR (.s (.int .i64 (nG p 0 n))) 3 (UQ vs d)):=by
 refine en L0 Tryz.f207 ?_;refine⟨fun k f o c=>∃i j:Nat,i≤j∧j≤n∧nG p i j=nG p 0 n∧k=j - i∧c=3∧f=[(1,.dc g [] [.ptr 1 0,.ptr 2 0]),(5,.s (.int .i64 i)),(6,.s (.int .i64 j))]∧o=UQ vs d,⟨n,?_⟩,?_⟩
 ·exact⟨[],[some 0,some 1,some 2],_,_,_,t3,⟨0,n,Nat.zero_le _,Nat.le_refl _,rfl,rfl,rfl,rfl,rfl⟩⟩
 ·rintro k f1 o1 c1 ⟨i,j,Bb,hj,hs,rfl,rfl,rfl,rfl⟩;refine wh ?_;refine sp ?_ ?_<;>intro h
  ·have h:i<j:=by exact Int.ofNat_lt.1 h
   have hm:=UP i j h om;have hc:=hg ((i+j) / 2) om;refine wh ?_;rw[hm];cases hp:p ((i+j) / 2)
   ·rw[hp]at hc;refine⟨[],[some 0,some 1,some 2],_,_,_,_,hc,t3,cw ?_⟩;rw[IntWalk.i64_in _ om];refine⟨j - ((i+j) / 2+1),?_,om⟩;exact⟨[],[some 0,some 1,some 2],_,_,_,t3,⟨(i+j) / 2+1,j,om,hj,(Nw h hp).symm.trans hs,rfl,rfl,rfl,rfl⟩⟩
   ·rw[hp]at hc;refine⟨[],[some 0,some 1,some 2],_,_,_,_,hc,t3,cw ?_⟩;refine⟨(i+j) / 2 - i,?_,om⟩;exact⟨[],[some 0,some 1,some 2],_,_,_,t3,⟨i,(i+j) / 2,om,by omega,(Nv h hp).symm.trans hs,rfl,rfl,rfl,rfl⟩⟩
  ·have h:¬i<j:=fun q=>h (Int.ofNat_lt.2 q);obtain rfl:i=j:=by omega
   rw[Gv h]at hs;refine wh ?_;refine⟨[],[some 0,some 1,some 2],_,_,_,tx ?_,rfl,rfl,rfl⟩;exact Lz.int (by rw[←hs])
theorem QJ {vs:List Vs} {k:Nat} (hk:k<vs.length):vs.getD k fS=vs[k]:=by simp[List.getD,hk]
theorem Yr (vs:List Vs) (k:Nat) (hk:k<vs.length) (d:Int):VC E0 208 3 [.s (.int .i64 k),.ptr 1 0,.ptr 2 0] (UQ vs d) (RR (.s (.bool (decide (d<(vs.getD k fS).seq)))) 3 (UQ vs d)):=by
 rw[QJ hk];refine en L0 Tryz.f208 ?_;refine⟨by simp;omega,?_⟩;refine wh ?_;refine⟨kN vs[k],by simp[hk],?_⟩;refine wh ?_;refine sp ?_ ?_<;>intro h
 all_goals
  refine wh ?_;refine⟨[],[some 0,some 1,some 2],_,_,_,tx ?_,rfl,rfl,rfl⟩;exact Lz.of (aT (by simp_all))
theorem vH (p:Nat→Bool) (i j:Nat):i≤j→nG p i j≤j:=by
 induction i,j using nG.induct (p:=p)with
 |case1 i j h hp ih=>rw[Nv h hp];intro q;have:=ih om;omega
 |case2 i j h hp ih=>rw[Nw h (by simpa using hp)];intro q;have:=ih om;omega
 |case3 i j h=>rw[Gv h];exact id
theorem J2 (vs:List Vs) (d:Int) (hn:vs.length<1000000):VC E0 166 1 [.ptr 0 0,.s (.int .u64 d)] (D8 vs) (RR (.s (.int .i64 (lX vs d))) 1 (D8 vs)):=by
 have hle:=vH (fun k=>decide (d<(vs.getD k fS).seq)) 0 vs.length (Nat.zero_le _);refine en L0 Tryz.f166 ?_;refine⟨[],[some 0],_,_,_,_,Ij vs,t3,cw ?_⟩;refine⟨[],[some 0,some 1,some 2],_,_,_,_,J1 _ vs d _ vs.length hn (fun k hk=>Yr vs k hk d),t3,cw ?_⟩;refine⟨[],[some 0],_,_,_,tx ?_,rfl,rfl,rfl⟩;exact Lz.int (by rw[IntWalk.i64_in _ om];rfl)
theorem Nz (vs:List Vs) (d:Int) (hn:vs.length<1000000):VC E0 120 1 [.ptr 0 0,.s (.int .u64 d)] (D8 vs) (RR (.s (.int .i64 (eR vs d))) 1 (D8 (vs.drop (eR vs d)))):=by
 have hle:=vH (fun k=>decide (d<(vs.getD k fS).seq)) 0 vs.length (Nat.zero_le _);refine en L0 Tryz.f120 ?_;refine⟨[],[some 0],_,_,_,_,J2 vs d hn,t3,cw ?_⟩;have hr:(if 0>lX vs d then 0 else lX vs d)=((eR vs d:Nat):Int):=by unfold eR;split<;>omega
 have bF:eR vs d≤vs.length:=by unfold eR lX;omega
 rw[hr];generalize eR vs d=m at bF;refine sp ?_ ?_<;>intro h
 ·have h:0<m:=by exact Int.ofNat_lt.1 h
  refine wh ?_;refine⟨⟨om,by simp;omega,rfl,by simp⟩,?_⟩;refine wh ?_;refine⟨by simp;omega,?_⟩;refine wh ?_;refine⟨[],[some 0],_,_,_,tx ?_,rfl,rfl,rfl⟩;exact Lz.of (by rw[List.map_drop,Int.toNat_natCast,Int.toNat_natCast,List.take_length])
 ·have h:¬0<m:=fun q=>h (Int.ofNat_lt.2 q);obtain rfl:m=0:=by omega
  refine wh ?_;exact⟨[],[some 0],_,_,_,t3,rfl,rfl,rfl⟩
@[reducible] def D9 (r:fB):List TV:=[.s (.int .i64 r.ak),.s (.int .u64 r.num),.s (.int .u64 r.seq),.s (.int .i64 r.code),.s (.int .u64 r.cB)]
@[reducible] def vh (t:dN):TO:=.cells [.s (.int .i64 t.r1.ak),.s (.int .u64 t.r1.num),.s (.int .u64 t.r1.seq),.s (.int .i64 t.r1.code),.s (.int .u64 t.r1.cB),.s (.int .i64 t.r2.ak),.s (.int .u64 t.r2.num),.s (.int .u64 t.r2.seq),.s (.int .i64 t.r2.code),.s (.int .u64 t.r2.cB),.s (.int .i64 t.r3.ak),.s (.int .u64 t.r3.num),.s (.int .u64 t.r3.seq),.s (.int .i64 t.r3.code),.s (.int .u64 t.r3.cB),.s (.int .i64 t.r4.ak),.s (.int .u64 t.r4.num),.s (.int .u64 t.r4.seq),.s (.int .i64 t.r4.code),.s (.int .u64 t.r4.cB),.s (.int .i64 t.r5.ak),.s (.int .u64 t.r5.num),.s (.int .u64 t.r5.seq),.s (.int .i64 t.r5.code),.s (.int .u64 t.r5.cB),.s (.int .i64 t.r6.ak),.s (.int .u64 t.r6.num),.s (.int .u64 t.r6.seq),.s (.int .i64 t.r6.code),.s (.int .u64 t.r6.cB)]
@[reducible] def ph (t:dN):Ob:=[(0,vh t)]
theorem QK:VC E0 88 0 [] [] (RR (.ptr 0 0) 1 (ph iB)):=by
 refine en L0 Tryz.f88 ?_;exact⟨[],[some 0],_,_,_,t3,rfl,rfl,rfl⟩
def J3 (c:Int):Bool:=decide (1≤c∧c≤6)
theorem sK (c:Int):VC E0 144 0 [.s (.int .i64 c)] [] (RR (.s (.bool (J3 c))) 0 []):=by
 refine en L0 Tryz.f144 ?_
 repeat'(first|((first|(refine⟨fun h=>?_,fun h=>?_⟩)|(refine ba (fun h=>?_) (fun h=>?_))|(refine a9 (fun h=>?_) (fun h=>?_)))<;>(conv=>whnf)))
 all_goals
  refine⟨[],[],_,_,_,tx ?_,rfl,rfl,rfl⟩;exact Lz.of (aT (by unfold J3;simp at*;omega))
theorem Ys (r:fB):VC E0 188 0 [.agg (D9 r)] [] (RR (.s (.bool (z8 r))) 0 []):=by
 refine en L0 Tryz.f188 ?_;refine⟨[],[],_,_,_,_,sK r.ak,t3,?_⟩;rintro r o' c' ⟨rfl,rfl,rfl⟩;have eo:=True.intro;clear eo;cases hc:J3 r.ak
 ·refine wh ?_;refine⟨[],[],_,_,_,tx ?_,rfl,rfl,rfl⟩;exact Lz.of (aT (by unfold J3 at hc;unfold z8;simp at hc ⊢;omega))
 ·have hc:1≤r.ak∧r.ak≤6:=by unfold J3 at hc;simpa using hc
  refine wh ?_
  repeat'(first|((first|(refine⟨fun h=>?_,fun h=>?_⟩)|(refine ba (fun h=>?_) (fun h=>?_))|(refine a9 (fun h=>?_) (fun h=>?_)))<;>(conv=>whnf)))
  all_goals
   refine⟨[],[],_,_,_,tx ?_,rfl,rfl,rfl⟩;exact Lz.of (aT (by unfold z8;simp at*;omega))
theorem xZ {c:Int} (h:1≤c∧c≤6):c=1∨c=2∨c=3∨c=4∨c=5∨c=6:=by omega
theorem BX (t:dN) (c n:Int):VC E0 100 1 [.ptr 0 0,.s (.int .i64 c),.s (.int .u64 n)] (ph t) (RR (.s (.int .i64 (bQ t c n))) 1 (ph t)):=by
 by_cases hc:1≤c∧c≤6
 ·have hk:=sK c;rw[show J3 c=true from by unfold J3;simpa using hc]at hk;rcases xZ hc with rfl |rfl |rfl |rfl |rfl |rfl
  ·refine en L0 Tryz.f100 ?_;refine⟨[],[],_,_,_,_,hk,t3,cw ?_⟩;refine sp ?_ ?_<;>intro h0
   ·refine wh ?_;refine⟨[],[some 0],_,_,_,tx ?_,rfl,rfl,rfl⟩;exact Lz.int (by unfold bQ;rw[if_pos (.inr h0)])
   ·refine wh ?_;refine⟨show(0≤IntKind.i64.wrap (1 - 1))∧IntKind.i64.wrap (1 - 1)<(6:Int) by decide,?_⟩;refine wh ?_
    repeat'(first|((first|(refine⟨fun h=>?_,fun h=>?_⟩)|(refine ba (fun h=>?_) (fun h=>?_))|(refine a9 (fun h=>?_) (fun h=>?_)))<;>(conv=>whnf)))
    all_goals
     refine⟨[],[some 0],_,_,_,tx ?_,rfl,rfl,rfl⟩;exact Lz.int (by unfold bQ dN.row;simp at*;omega)
  ·refine en L0 Tryz.f100 ?_;refine⟨[],[],_,_,_,_,hk,t3,cw ?_⟩;refine sp ?_ ?_<;>intro h0
   ·refine wh ?_;refine⟨[],[some 0],_,_,_,tx ?_,rfl,rfl,rfl⟩;exact Lz.int (by unfold bQ;rw[if_pos (.inr h0)])
   ·refine wh ?_;refine⟨show(0≤IntKind.i64.wrap (2 - 1))∧IntKind.i64.wrap (2 - 1)<(6:Int) by decide,?_⟩;refine wh ?_
    repeat'(first|((first|(refine⟨fun h=>?_,fun h=>?_⟩)|(refine ba (fun h=>?_) (fun h=>?_))|(refine a9 (fun h=>?_) (fun h=>?_)))<;>(conv=>whnf)))
    all_goals
     refine⟨[],[some 0],_,_,_,tx ?_,rfl,rfl,rfl⟩;exact Lz.int (by unfold bQ dN.row;simp at*;omega)
  ·refine en L0 Tryz.f100 ?_;refine⟨[],[],_,_,_,_,hk,t3,cw ?_⟩;refine sp ?_ ?_<;>intro h0
   ·refine wh ?_;refine⟨[],[some 0],_,_,_,tx ?_,rfl,rfl,rfl⟩;exact Lz.int (by unfold bQ;rw[if_pos (.inr h0)])
   ·refine wh ?_;refine⟨show(0≤IntKind.i64.wrap (3 - 1))∧IntKind.i64.wrap (3 - 1)<(6:Int) by decide,?_⟩;refine wh ?_
    repeat'(first|((first|(refine⟨fun h=>?_,fun h=>?_⟩)|(refine ba (fun h=>?_) (fun h=>?_))|(refine a9 (fun h=>?_) (fun h=>?_)))<;>(conv=>whnf)))
    all_goals
     refine⟨[],[some 0],_,_,_,tx ?_,rfl,rfl,rfl⟩;exact Lz.int (by unfold bQ dN.row;simp at*;omega)
  ·refine en L0 Tryz.f100 ?_;refine⟨[],[],_,_,_,_,hk,t3,cw ?_⟩;refine sp ?_ ?_<;>intro h0
   ·refine wh ?_;refine⟨[],[some 0],_,_,_,tx ?_,rfl,rfl,rfl⟩;exact Lz.int (by unfold bQ;rw[if_pos (.inr h0)])
   ·refine wh ?_;refine⟨show(0≤IntKind.i64.wrap (4 - 1))∧IntKind.i64.wrap (4 - 1)<(6:Int) by decide,?_⟩;refine wh ?_
    repeat'(first|((first|(refine⟨fun h=>?_,fun h=>?_⟩)|(refine ba (fun h=>?_) (fun h=>?_))|(refine a9 (fun h=>?_) (fun h=>?_)))<;>(conv=>whnf)))
    all_goals
     refine⟨[],[some 0],_,_,_,tx ?_,rfl,rfl,rfl⟩;exact Lz.int (by unfold bQ dN.row;simp at*;omega)
  ·refine en L0 Tryz.f100 ?_;refine⟨[],[],_,_,_,_,hk,t3,cw ?_⟩;refine sp ?_ ?_<;>intro h0
   ·refine wh ?_;refine⟨[],[some 0],_,_,_,tx ?_,rfl,rfl,rfl⟩;exact Lz.int (by unfold bQ;rw[if_pos (.inr h0)])
   ·refine wh ?_;refine⟨show(0≤IntKind.i64.wrap (5 - 1))∧IntKind.i64.wrap (5 - 1)<(6:Int) by decide,?_⟩;refine wh ?_
    repeat'(first|((first|(refine⟨fun h=>?_,fun h=>?_⟩)|(refine ba (fun h=>?_) (fun h=>?_))|(refine a9 (fun h=>?_) (fun h=>?_)))<;>(conv=>whnf)))
    all_goals
     refine⟨[],[some 0],_,_,_,tx ?_,rfl,rfl,rfl⟩;exact Lz.int (by unfold bQ dN.row;simp at*;omega)
  ·refine en L0 Tryz.f100 ?_;refine⟨[],[],_,_,_,_,hk,t3,cw ?_⟩;refine sp ?_ ?_<;>intro h0
   ·refine wh ?_;refine⟨[],[some 0],_,_,_,tx ?_,rfl,rfl,rfl⟩;exact Lz.int (by unfold bQ;rw[if_pos (.inr h0)])
   ·refine wh ?_;refine⟨show(0≤IntKind.i64.wrap (6 - 1))∧IntKind.i64.wrap (6 - 1)<(6:Int) by decide,?_⟩;refine wh ?_
    repeat'(first|((first|(refine⟨fun h=>?_,fun h=>?_⟩)|(refine ba (fun h=>?_) (fun h=>?_))|(refine a9 (fun h=>?_) (fun h=>?_)))<;>(conv=>whnf)))
    all_goals
     refine⟨[],[some 0],_,_,_,tx ?_,rfl,rfl,rfl⟩;exact Lz.int (by unfold bQ dN.row;simp at*;omega)
 ·have hk:=sK c;rw[show J3 c=false from by unfold J3;simpa using hc]at hk;refine en L0 Tryz.f100 ?_;refine⟨[],[],_,_,_,_,hk,t3,cw ?_⟩;refine⟨[],[some 0],_,_,_,tx ?_,rfl,rfl,rfl⟩;exact Lz.int (by unfold bQ;rw[if_pos (.inl hc)])
@[reducible] def QL (q:fB×Bool):TV:=.cY [.agg (D9 q.1),.s (.bool q.2)]
theorem Il (t:dN) (c:Int):VC E0 101 1 [.ptr 0 0,.s (.int .i64 c)] (ph t) (RR (QL (gK t c)) 1 (ph t)):=by
 by_cases hc:1≤c∧c≤6
 ·have hk:=sK c;rw[show J3 c=true from by unfold J3;simpa using hc]at hk;rcases xZ hc with rfl |rfl |rfl |rfl |rfl |rfl
  ·refine en L0 Tryz.f101 ?_;refine⟨[],[],_,_,_,_,hk,t3,cw ?_⟩;refine⟨by decide,?_⟩;refine wh ?_;refine sp ?_ ?_<;>intro h0
   ·rw[show gK t 1=(e6,false)from if_pos (.inr h0)];refine wh ?_;exact⟨[],[some 0],_,_,_,t3,rfl,rfl,rfl⟩
   ·rw[show gK t 1=(t.row 1,true)from if_neg (not_or.2 ⟨not_not_intro hc,h0⟩)];refine wh ?_;refine⟨show(0≤IntKind.i64.wrap (1 - 1))∧IntKind.i64.wrap (1 - 1)<(6:Int) by decide,?_⟩;refine wh ?_;exact⟨[],[some 0],_,_,_,t3,rfl,rfl,rfl⟩
  ·refine en L0 Tryz.f101 ?_;refine⟨[],[],_,_,_,_,hk,t3,cw ?_⟩;refine⟨by decide,?_⟩;refine wh ?_;refine sp ?_ ?_<;>intro h0
   ·rw[show gK t 2=(e6,false)from if_pos (.inr h0)];refine wh ?_;exact⟨[],[some 0],_,_,_,t3,rfl,rfl,rfl⟩
   ·rw[show gK t 2=(t.row 2,true)from if_neg (not_or.2 ⟨not_not_intro hc,h0⟩)];refine wh ?_;refine⟨show(0≤IntKind.i64.wrap (2 - 1))∧IntKind.i64.wrap (2 - 1)<(6:Int) by decide,?_⟩;refine wh ?_;exact⟨[],[some 0],_,_,_,t3,rfl,rfl,rfl⟩
  ·refine en L0 Tryz.f101 ?_;refine⟨[],[],_,_,_,_,hk,t3,cw ?_⟩;refine⟨by decide,?_⟩;refine wh ?_;refine sp ?_ ?_<;>intro h0
   ·rw[show gK t 3=(e6,false)from if_pos (.inr h0)];refine wh ?_;exact⟨[],[some 0],_,_,_,t3,rfl,rfl,rfl⟩
   ·rw[show gK t 3=(t.row 3,true)from if_neg (not_or.2 ⟨not_not_intro hc,h0⟩)];refine wh ?_;refine⟨show(0≤IntKind.i64.wrap (3 - 1))∧IntKind.i64.wrap (3 - 1)<(6:Int) by decide,?_⟩;refine wh ?_;exact⟨[],[some 0],_,_,_,t3,rfl,rfl,rfl⟩
  ·refine en L0 Tryz.f101 ?_;refine⟨[],[],_,_,_,_,hk,t3,cw ?_⟩;refine⟨by decide,?_⟩;refine wh ?_;refine sp ?_ ?_<;>intro h0
   ·rw[show gK t 4=(e6,false)from if_pos (.inr h0)];refine wh ?_;exact⟨[],[some 0],_,_,_,t3,rfl,rfl,rfl⟩
   ·rw[show gK t 4=(t.row 4,true)from if_neg (not_or.2 ⟨not_not_intro hc,h0⟩)];refine wh ?_;refine⟨show(0≤IntKind.i64.wrap (4 - 1))∧IntKind.i64.wrap (4 - 1)<(6:Int) by decide,?_⟩;refine wh ?_;exact⟨[],[some 0],_,_,_,t3,rfl,rfl,rfl⟩
  ·refine en L0 Tryz.f101 ?_;refine⟨[],[],_,_,_,_,hk,t3,cw ?_⟩;refine⟨by decide,?_⟩;refine wh ?_;refine sp ?_ ?_<;>intro h0
   ·rw[show gK t 5=(e6,false)from if_pos (.inr h0)];refine wh ?_;exact⟨[],[some 0],_,_,_,t3,rfl,rfl,rfl⟩
   ·rw[show gK t 5=(t.row 5,true)from if_neg (not_or.2 ⟨not_not_intro hc,h0⟩)];refine wh ?_;refine⟨show(0≤IntKind.i64.wrap (5 - 1))∧IntKind.i64.wrap (5 - 1)<(6:Int) by decide,?_⟩;refine wh ?_;exact⟨[],[some 0],_,_,_,t3,rfl,rfl,rfl⟩
  ·refine en L0 Tryz.f101 ?_;refine⟨[],[],_,_,_,_,hk,t3,cw ?_⟩;refine⟨by decide,?_⟩;refine wh ?_;refine sp ?_ ?_<;>intro h0
   ·rw[show gK t 6=(e6,false)from if_pos (.inr h0)];refine wh ?_;exact⟨[],[some 0],_,_,_,t3,rfl,rfl,rfl⟩
   ·rw[show gK t 6=(t.row 6,true)from if_neg (not_or.2 ⟨not_not_intro hc,h0⟩)];refine wh ?_;refine⟨show(0≤IntKind.i64.wrap (6 - 1))∧IntKind.i64.wrap (6 - 1)<(6:Int) by decide,?_⟩;refine wh ?_;exact⟨[],[some 0],_,_,_,t3,rfl,rfl,rfl⟩
 ·have hk:=sK c;rw[show J3 c=false from by unfold J3;simpa using hc]at hk;rw[show gK t c=(e6,false)from if_pos (.inl hc)];refine en L0 Tryz.f101 ?_;refine⟨[],[],_,_,_,_,hk,t3,cw ?_⟩;exact⟨[],[some 0],_,_,_,t3,rfl,rfl,rfl⟩
theorem vI (t:dN) (r:fB):VC E0 149 1 [.ptr 0 0,.agg (D9 r)] (ph t) (RR (.s (.int .i64 (DM t r))) 1 (ph (Gc t r))):=by
 have hf:=Ys r;cases hb:z8 r
 ·rw[hb]at hf;have e1:DM t r=1:=if_pos hb;rw[show Gc t r=t from if_neg (by rw[e1];decide),e1];refine en L0 Tryz.f149 ?_;refine⟨[],[],_,_,_,_,hf,t3,cw ?_⟩;exact⟨[],[some 0],_,_,_,t3,rfl,rfl,rfl⟩
 ·rw[hb]at hf;have hj:=BX t r.ak r.num;by_cases h0:bQ t r.ak r.num=0
  ·have e1:DM t r=0:=by unfold DM;rw[if_neg (by rw[hb];decide),if_neg (by rw[h0];decide)]
   rw[show Gc t r=t.put r.ak r from if_pos e1,e1];rw[h0]at hj;have hc:1≤r.ak∧r.ak≤6:=by unfold z8 at hb;simp at hb;omega
   obtain⟨c,rn,rs,rc,rv⟩:=r;rcases xZ hc with rfl |rfl |rfl |rfl |rfl |rfl
   ·refine en L0 Tryz.f149 ?_;refine⟨[],[],_,_,_,_,hf,t3,cw ?_⟩;refine⟨[],[some 0],_,_,_,_,hj,t3,cw ?_⟩;refine sp ?_ ?_<;>intro h2
    ·exact absurd rfl h2
    ·refine wh ?_;refine⟨show(0≤IntKind.i64.wrap (1 - 1))∧IntKind.i64.wrap (1 - 1)<(6:Int) by decide,?_⟩;refine wh ?_;exact⟨[],[some 0],_,_,_,t3,rfl,rfl,rfl⟩
   ·refine en L0 Tryz.f149 ?_;refine⟨[],[],_,_,_,_,hf,t3,cw ?_⟩;refine⟨[],[some 0],_,_,_,_,hj,t3,cw ?_⟩;refine sp ?_ ?_<;>intro h2
    ·exact absurd rfl h2
    ·refine wh ?_;refine⟨show(0≤IntKind.i64.wrap (2 - 1))∧IntKind.i64.wrap (2 - 1)<(6:Int) by decide,?_⟩;refine wh ?_;exact⟨[],[some 0],_,_,_,t3,rfl,rfl,rfl⟩
   ·refine en L0 Tryz.f149 ?_;refine⟨[],[],_,_,_,_,hf,t3,cw ?_⟩;refine⟨[],[some 0],_,_,_,_,hj,t3,cw ?_⟩;refine sp ?_ ?_<;>intro h2
    ·exact absurd rfl h2
    ·refine wh ?_;refine⟨show(0≤IntKind.i64.wrap (3 - 1))∧IntKind.i64.wrap (3 - 1)<(6:Int) by decide,?_⟩;refine wh ?_;exact⟨[],[some 0],_,_,_,t3,rfl,rfl,rfl⟩
   ·refine en L0 Tryz.f149 ?_;refine⟨[],[],_,_,_,_,hf,t3,cw ?_⟩;refine⟨[],[some 0],_,_,_,_,hj,t3,cw ?_⟩;refine sp ?_ ?_<;>intro h2
    ·exact absurd rfl h2
    ·refine wh ?_;refine⟨show(0≤IntKind.i64.wrap (4 - 1))∧IntKind.i64.wrap (4 - 1)<(6:Int) by decide,?_⟩;refine wh ?_;exact⟨[],[some 0],_,_,_,t3,rfl,rfl,rfl⟩
   ·refine en L0 Tryz.f149 ?_;refine⟨[],[],_,_,_,_,hf,t3,cw ?_⟩;refine⟨[],[some 0],_,_,_,_,hj,t3,cw ?_⟩;refine sp ?_ ?_<;>intro h2
    ·exact absurd rfl h2
    ·refine wh ?_;refine⟨show(0≤IntKind.i64.wrap (5 - 1))∧IntKind.i64.wrap (5 - 1)<(6:Int) by decide,?_⟩;refine wh ?_;exact⟨[],[some 0],_,_,_,t3,rfl,rfl,rfl⟩
   ·refine en L0 Tryz.f149 ?_;refine⟨[],[],_,_,_,_,hf,t3,cw ?_⟩;refine⟨[],[some 0],_,_,_,_,hj,t3,cw ?_⟩;refine sp ?_ ?_<;>intro h2
    ·exact absurd rfl h2
    ·refine wh ?_;refine⟨show(0≤IntKind.i64.wrap (6 - 1))∧IntKind.i64.wrap (6 - 1)<(6:Int) by decide,?_⟩;refine wh ?_;exact⟨[],[some 0],_,_,_,t3,rfl,rfl,rfl⟩
  ·have e1:DM t r=12:=by unfold DM;rw[if_neg (by rw[hb];decide),if_pos h0]
   rw[show Gc t r=t from if_neg (by rw[e1];decide),e1];refine en L0 Tryz.f149 ?_;refine⟨[],[],_,_,_,_,hf,t3,cw ?_⟩;refine⟨[],[some 0],_,_,_,_,hj,t3,cw ?_⟩;refine sp ?_ ?_<;>intro h2
   ·refine wh ?_;exact⟨[],[some 0],_,_,_,t3,rfl,rfl,rfl⟩
   ·exact absurd h0 h2
@[reducible] def Gw:TV:=.s (.pointer none)
@[reducible] def i0:TV:=.s (.int .i64 0)
@[reducible] def u0:TV:=.s (.int .u64 0)
@[reducible] def zV:TV:=.agg (kN fS)
@[reducible] def boxes (d:Int):Ob:=[(1,.cells [.s (.int .u64 d)]),(0,.cells [Gw])]
theorem Ea:VC E0 114 0 [Gw] [] (RR i0 0 []):=by
 refine en L0 Tryz.f114 ?_;exact⟨[],[],_,_,_,t3,rfl,rfl,rfl⟩
theorem QM (i:Int):VC E0 113 0 [Gw,.s (.int .i64 i)] [] (RR zV 0 []):=by
 refine en L0 Tryz.f113 ?_;exact⟨[],[],_,_,_,t3,rfl,rfl,rfl⟩
theorem J4:VC E0 79 0 [Gw] [] (RR zV 0 []):=by
 refine en L0 Tryz.f79 ?_;refine⟨[],[],_,_,_,_,Ea,t3,cw ?_⟩;refine⟨[],[],_,_,_,_,QM (-1),t3,cw ?_⟩;exact⟨[],[],_,_,_,t3,rfl,rfl,rfl⟩
theorem Gx (g:Nat) (d:Int):VC E0 207 2 [i0,.dc g [] [.ptr 0 0,.ptr 1 0]] (boxes d) (RR i0 2 (boxes d)):=by
 refine en L0 Tryz.f207 ?_;refine⟨fun k f o c=>k=0∧c=2∧f=[(1,.dc g [] [.ptr 0 0,.ptr 1 0]),(5,i0),(6,i0)]∧o=boxes d,⟨0,?_⟩,?_⟩
 ·exact⟨[],[some 0,some 1],_,_,_,t3,⟨rfl,rfl,rfl,rfl⟩⟩
 ·rintro k f1 o1 c1 ⟨rfl,rfl,rfl,rfl⟩;refine wh ?_
  repeat((first|(refine⟨fun h_=>?_,fun h_=>?_⟩)|(refine ba (fun h_=>?_) (fun h_=>?_))|(refine a9 (fun h_=>?_) (fun h_=>?_)))<;>first|(exfalso;revert h_;decide;done)|(exact absurd rfl h_)|(have eo:=True.intro;clear eo;(conv=>whnf)))
  exact⟨[],[some 0,some 1],_,_,_,t3,rfl,rfl,rfl⟩
theorem Gy (d:Int):VC E0 166 0 [Gw,.s (.int .u64 d)] [] (RR (.s (.int .i64 (-1))) 0 []):=by
 refine en L0 Tryz.f166 ?_;refine⟨[],[],_,_,_,_,Ea,t3,cw ?_⟩;refine⟨[],[some 0,some 1],_,_,_,_,Gx _ d,t3,cw ?_⟩;exact⟨[],[],_,_,_,t3,rfl,rfl,rfl⟩
theorem J5 (d:Int):VC E0 120 0 [Gw,.s (.int .u64 d)] [] (RR i0 0 []):=by
 refine en L0 Tryz.f120 ?_;refine⟨[],[],_,_,_,_,Gy d,t3,cw ?_⟩;refine sp ?_ ?_<;>intro h
 ·exact absurd h (by decide)
 ·refine wh ?_;exact⟨[],[],_,_,_,t3,rfl,rfl,rfl⟩
@[reducible] def mJ (vs:List Vs):TV:=.own (QF vs)
@[reducible] def vi (bs:List (Int×List Vs)):TO:=.eT (iN .u32) (bs.map (nF .u32 mJ)) []
@[reducible] def Yt (s:dG):TO:=.cells [.s (.int .u64 s.e),.mp 1,.own (vh s.t)]
@[reducible] def rE (s:dG):Ob:=[(0,Yt s),(1,vi s.bs)]
@[reducible] def abG (s:dG) (k:Int) (vs:List Vs):Ob:=[(0,.cells [.s (.int .u64 s.e),.mp 1,.own (vh s.t)]),(1,.eT (iN .u32) (s.bs.map (nF .u32 mJ)) [(.int .u32 k,.ptr 2 0)]),(2,QF vs)]
theorem Eb (s:dG) (k:Int) (h:dP s.bs k=none):VC E0 78 2 [.ptr 0 0,.s (.int .u32 k)] (rE s) (RR Gw 2 (rE s)):=by
 refine en L0 Tryz.f78 ?_;refine⟨none,by rw[sE,h];rfl,?_⟩;refine wh ?_;exact⟨[],[some 0,some 1],_,_,_,t3,rfl,rfl,rfl⟩
theorem Ec (s:dG) (k:Int) (vs:List Vs) (h:dP s.bs k=some vs):VC E0 78 2 [.ptr 0 0,.s (.int .u32 k)] (rE s) (RR (.ptr 2 0) 3 (abG s k vs)):=by
 refine en L0 Tryz.f78 ?_;refine⟨some (mJ vs),by rw[sE,h];rfl,?_⟩;refine wh ?_;exact⟨[],[some 0,some 1,some 2],_,_,_,t3,rfl,rfl,rfl⟩
theorem J6 {bs:List (Int×List Vs)} {k:Int} {vs:List Vs} (h:dP bs k=some vs):iA bs k vs=bs:=by
 induction bs with
 |nil=>cases h
 |cons e es ih=>
  unfold dP at h;unfold iA;split at h
  ·rename_i he;cases h;rw[if_pos he,he]
  ·rename_i he;rw[if_neg he,ih h]
theorem QN {bs:List (Int×List Vs)} {k:Int} {vs:List Vs} (h:dP bs k=some vs):I6 (bs.map (nF .u32 mJ)) [(.int .u32 k,mJ vs)]=bs.map (nF .u32 mJ):=by
 show dE (bs.map (nF .u32 mJ)) (.int .u32 k) (mJ vs)=_;rw[Gb,J6 h]
theorem QO (i:Int):MP [] i=fS:=by unfold MP;split<;>simp
structure y8 (s:dG):Prop where
 v:∀k vs,dP s.bs k=some vs→(∀v∈vs,Sx v)∧vs.length<100000
theorem mK {s:dG} {k:Int} (h:dP s.bs k=none):kV s k=[]:=by unfold kV;rw[h];rfl
theorem mL {s:dG} {k:Int} {vs:List Vs} (h:dP s.bs k=some vs):kV s k=vs:=by unfold kV;rw[h];rfl
theorem Im (s:dG) (k:Int) (H:y8 s):VC E0 38 2 [.ptr 0 0,.s (.int .u32 k)] (rE s) (RR (.agg (kN (du (kV s k)))) 2 (rE s)):=by
 cases h:dP s.bs k with
 |none=>
  rw[mK h];refine en L0 Tryz.f38 ?_;refine⟨[],[some 0,some 1],_,_,_,_,Eb s k h,t3,cw ?_⟩;refine⟨[],[],_,_,_,_,J4,t3,cw ?_⟩;exact⟨[],[some 0,some 1],_,_,_,t3,rfl,rfl,rfl⟩
 |some vs=>
  rw[mL h];obtain⟨hv,hn⟩:=H.v k vs h;refine en L0 Tryz.f38 ?_;refine⟨[],[some 0,some 1],_,_,_,_,Ec s k vs h,t3,cw ?_⟩;refine⟨[],[some 5],_,_,_,_,Nu vs hv om,t3,cw ?_⟩;refine⟨[],[some 0,some 1],_,_,_,⟨tq,.cons (.cells tq) (.cons (.eT (iO:=[(_,mJ vs)]) .one (Lw.of (QN h)) (.m1 (by rfl) tq)) .nil),by rfl⟩,⟨rfl,rfl,rfl⟩⟩
theorem QP:VC E0 48 0 [] [] (RR (.ptr 0 0) 2 (rE ⟨0,[],iB⟩)):=by
 refine en L0 Tryz.f48 ?_;refine⟨[],[],_,_,_,_,QK,t3,cw ?_⟩;exact⟨[],[some 2,some 0],_,_,_,t3,rfl,rfl,rfl⟩
theorem UR (s:dG):VC E0 32 2 [.ptr 0 0] (rE s) (RR (.s (.int .u64 s.e)) 2 (rE s)):=by
 refine en L0 Tryz.f32 ?_;exact⟨[],[some 0,some 1],_,_,_,t3,rfl,rfl,rfl⟩
theorem J7 (s:dG) (c n:Int):VC E0 58 2 [.ptr 0 0,.s (.int .i64 c),.s (.int .u64 n)] (rE s) (RR (.s (.int .i64 (bQ s.t c n))) 2 (rE s)):=by
 refine en L0 Tryz.f58 ?_;refine⟨[],[some 2],_,_,_,_,BX s.t c n,t3,cw ?_⟩;exact⟨[],[some 0,some 1],_,_,_,t3,rfl,rfl,rfl⟩
theorem QR (s:dG) (c:Int):VC E0 59 2 [.ptr 0 0,.s (.int .i64 c)] (rE s) (RR (QL (gK s.t c)) 2 (rE s)):=by
 refine en L0 Tryz.f59 ?_;refine⟨[],[some 3],_,_,_,_,Il s.t c,t3,cw ?_⟩;exact⟨[],[some 0,some 1],_,_,_,t3,rfl,rfl,rfl⟩
theorem NA (bs:List (Int×List Vs)):VC E0 77 1 [.mp 0] [(0,vi bs)] (RR (.dc 112 [] [.ptr 1 0]) 2 [(0,vi bs),(1,.cells [.mp 0])]):=by
 refine en L0 Tryz.f77 ?_;exact⟨[],[some 0,some 1],_,_,_,t3,rfl,rfl,rfl⟩
theorem Ed (s:dG) (hn:s.bs.length<13):VC E0 37 2 [.ptr 0 0] (rE s) (RR (.sl 1 ((cz (bN s.bs)).map je) false) 2 (rE s)):=by
 have hk:H4 (bN s.bs) (vi s.bs):=⟨rfl,by
  rw[Qa]⟩
 refine en L0 Tryz.f37 ?_;refine⟨[],[some 1],_,_,_,_,NA s.bs,t3,cw ?_⟩;refine⟨[],[some 1,some 3],_,_,_,_,VC.xR hk (by rw[List.length_map];exact hn),t3,cw ?_⟩;exact⟨[],[some 0,some 1],_,_,_,t3,rfl,rfl,rfl⟩
theorem Gz (bs:List (Int×List Vs)) (k:Int) (vs:List Vs):I6 (bs.map (nF .u32 mJ)) [(.int .u32 k,mJ vs)]=(iA bs k vs).map (nF .u32 mJ):=by
 show dE (bs.map (nF .u32 mJ)) (.int .u32 k) (mJ vs)=_;rw[Gb]
theorem Io (s:dG) (k:Int) (v:Vs) (hv:0≤v.cB∧v.cB≤18446744073709551615) (H:y8 s):VC E0 147 2 [.ptr 0 0,.s (.int .u32 k),.agg (kN v)] (rE s) (RR (.s (.int .i64 (oh (kV s k) v))) 2 (rE (BQ s k v))):=by
 cases h:dP s.bs k with
 |none=>
  unfold BQ;rw[mK h];refine en L0 Tryz.f147 ?_;refine⟨none,by rw[sE,h];rfl,?_⟩;refine wh ?_;refine⟨[],[],_,_,_,_,QG,t3,cw ?_⟩;refine⟨[],[some 3],_,_,_,_,Ik [] v hv (by decide),t3,cw ?_⟩;refine⟨[],[some 0,some 1],_,_,_,⟨tq,.cons (.cells tq) (.cons (.eT (iO:=[(_,mJ (kK [] v))]) .one (Lw.of (Gz _ _ _)) (.m1 (by rfl) tq)) .nil),by rfl⟩,⟨rfl,rfl,rfl⟩⟩
 |some vs=>
  unfold BQ;rw[mL h];obtain⟨_,hn⟩:=H.v k vs h;refine en L0 Tryz.f147 ?_;refine⟨some (mJ vs),by rw[sE,h];rfl,?_⟩;refine wh ?_;refine⟨[],[some 3],_,_,_,_,Ik vs v hv hn,t3,cw ?_⟩;refine⟨[],[some 0,some 1],_,_,_,⟨tq,.cons (.cells tq) (.cons (.eT (iO:=[(_,mJ (kK vs v))]) .one (Lw.of (Gz _ _ _)) (.m1 (by rfl) tq)) .nil),by rfl⟩,⟨rfl,rfl,rfl⟩⟩
@[reducible] def US (q:fB×Int):TV:=.cY [.agg (D9 q.1),.s (.int .i64 q.2)]
theorem Ip {u:bo} (h:o9 u=0):u.seq≠0∧u.data.length≤2048:=by
 unfold o9 Qb at h;split at h
 ·split at h
  ·omega
  ·split at h
   ·rename_i h2;simp at h2;omega
   ·omega
 ·omega
theorem GA {u:bo} {cB:Int} {b:Bool} (h:0≤cB∧cB≤18446744073709551615):0≤(xJ u cB b).2.1∧(xJ u cB b).2.1≤18446744073709551615:=by
 unfold xJ;split
 ·split
  ·exact h
  ·split
   ·exact h
   ·simp;omega
 ·exact h
theorem Ee {vs:List Vs} (hv:∀v∈vs,Sx v):0≤(du vs).cB∧(du vs).cB≤18446744073709551615:=by
 rcases xY vs with rfl |⟨ws,w,rfl⟩
 ·exact⟨by decide,by decide⟩
 ·rw[hH];exact(hv w (by simp)).cB
theorem GB {s:dG} (H:y8 s) (k:Int):(∀v∈kV s k,Sx v)∧(kV s k).length<100000:=by
 cases h:dP s.bs k with
 |none=>rw[mK h];exact⟨by simp,by decide⟩
 |some vs=>rw[mL h];exact H.v k vs h
theorem NB {s:dG} (h:(((s.bs.map (nF .u32 mJ)).length:Nat):Int)<192):mE s=true:=decide_eq_true (by rw[List.length_map]at h;omega)
theorem NC {s:dG} (h:mE s=true):(((s.bs.map (nF .u32 mJ)).length:Nat):Int)<192:=by
 have:s.bs.length<192:=of_decide_eq_true h;rw[List.length_map];omega
theorem ND (s:dG) (u:bo) (H:y8 s) (hu:Nr u):VC E0 102 2 [.ptr 0 0,.agg (b7 u)] (rE s) (RR (US (gu s u).1) 2 (rE (gu s u).2)):=by
 have hs:=hu.seq;unfold gu;by_cases h0:o9 u=0
 ·rw[if_neg (not_not_intro h0)];have hc:=xX u;rw[h0]at hc;obtain⟨uE,Wa⟩:=Ip h0;have hw:IntKind.u64.wrap (u.seq - 1)=u.seq - 1:=IntWalk.u64_in _ om;by_cases h1:u.seq - 1=s.e
  ·rw[if_neg (not_not_intro h1)];have hj:=BX s.t u.ak u.num;have hl:=Im {s with e:=u.seq} u.key ⟨H.v⟩;have hlr:=Ee (GB H u.key).1;have ho:=Gt u (du (kV s u.key)).cB (mE s) hlr;refine en L0 Tryz.f102 ?_;refine⟨[],[],_,_,_,_,hc,t3,cw ?_⟩;refine sp ?_ ?_<;>intro h2
   ·exact absurd rfl h2
   ·refine wh ?_;refine sp ?_ ?_<;>intro h3
    ·have h3:IntKind.u64.wrap (u.seq - 1)≠s.e:=h3;rw[hw]at h3;exact absurd h1 h3
    ·refine wh ?_;refine⟨[],[some 4],_,_,_,_,hj,t3,cw ?_⟩;refine sp ?_ ?_<;>intro h4
     ·have h4:bQ s.t u.ak u.num≠0:=h4;rw[if_pos h4];refine wh ?_;exact⟨[],[some 0,some 1],_,_,_,t3,rfl,rfl,rfl⟩
     ·have h4:¬bQ s.t u.ak u.num≠0:=h4;rw[if_neg h4];refine wh ?_;refine⟨[],[some 0,some 1],_,_,_,_,hl,t3,cw ?_⟩;rcases hq:kW s u with⟨qc,qv,qb⟩;rw[show xJ u (du (kV s u.key)).cB (mE s)=(qc,qv,qb)from hq]at ho;have hqv:0≤qv∧qv≤18446744073709551615:=by
       have:=GA (u:=u) (b:=mE s) hlr;rw[show xJ u (du (kV s u.key)).cB (mE s)=(qc,qv,qb)from hq]at this;exact this
      have aN:BR s u=⟨u.ak,u.num,u.seq,qc,qv⟩:=by unfold BR;rw[hq]
      have fI:wrote s u=if qb=true then BQ {s with e:=u.seq} u.key ⟨qv,u.seq,u.data⟩else {s with e:=u.seq}:=by unfold wrote;rw[hq]
      rw[aN,fI];cases qb
      ·rw[if_neg Bool.false_ne_true];cases hr:mE s
       ·rw[hr]at ho;refine sp ?_ ?_<;>intro h5
        ·exact absurd ((NB h5).symm.trans hr) (by decide)
        ·refine wh ?_;refine⟨[],[],_,_,_,_,ho,t3,cw ?_⟩;refine⟨[],[some 9],_,_,_,_,vI s.t ⟨u.ak,u.num,u.seq,qc,qv⟩,t3,cw ?_⟩;exact⟨[],[some 0,some 1],_,_,_,t3,rfl,rfl,rfl⟩
       ·rw[hr]at ho;refine sp ?_ ?_<;>intro h5
        ·refine wh ?_;refine⟨[],[],_,_,_,_,ho,t3,cw ?_⟩;refine⟨[],[some 9],_,_,_,_,vI s.t ⟨u.ak,u.num,u.seq,qc,qv⟩,t3,cw ?_⟩;exact⟨[],[some 0,some 1],_,_,_,t3,rfl,rfl,rfl⟩
        ·exact absurd (NC hr) h5
      ·rw[if_pos rfl];cases hr:mE s
       ·rw[hr]at ho;refine sp ?_ ?_<;>intro h5
        ·exact absurd ((NB h5).symm.trans hr) (by decide)
        ·refine wh ?_;refine⟨[],[],_,_,_,_,ho,t3,cw ?_⟩;refine⟨[],[],_,_,_,_,Ii u qv om,t3,cw ?_⟩;refine⟨[],[some 0,some 1],_,_,_,_,Io {s with e:=u.seq} u.key ⟨qv,u.seq,u.data⟩ hqv ⟨H.v⟩,t3,cw ?_⟩;refine⟨[],[some 11],_,_,_,_,vI s.t ⟨u.ak,u.num,u.seq,qc,qv⟩,t3,cw ?_⟩;exact⟨[],[some 0,some 1],_,_,_,t3,rfl,rfl,rfl⟩
       ·rw[hr]at ho;refine sp ?_ ?_<;>intro h5
        ·refine wh ?_;refine⟨[],[],_,_,_,_,ho,t3,cw ?_⟩;refine⟨[],[],_,_,_,_,Ii u qv om,t3,cw ?_⟩;refine⟨[],[some 0,some 1],_,_,_,_,Io {s with e:=u.seq} u.key ⟨qv,u.seq,u.data⟩ hqv ⟨H.v⟩,t3,cw ?_⟩;refine⟨[],[some 11],_,_,_,_,vI s.t ⟨u.ak,u.num,u.seq,qc,qv⟩,t3,cw ?_⟩;exact⟨[],[some 0,some 1],_,_,_,t3,rfl,rfl,rfl⟩
        ·exact absurd (NC hr) h5
  ·rw[if_pos h1];refine en L0 Tryz.f102 ?_;refine⟨[],[],_,_,_,_,hc,t3,cw ?_⟩;refine sp ?_ ?_<;>intro h2
   ·exact absurd rfl h2
   ·refine wh ?_;refine sp ?_ ?_<;>intro h3
    ·refine wh ?_;exact⟨[],[some 0,some 1],_,_,_,t3,rfl,rfl,rfl⟩
    ·have h3:¬IntKind.u64.wrap (u.seq - 1)≠s.e:=h3;rw[hw]at h3;exact absurd h1 h3
 ·rw[if_pos h0];have hc:=xX u;refine en L0 Tryz.f102 ?_;refine⟨[],[],_,_,_,_,hc,t3,cw ?_⟩;refine sp ?_ ?_<;>intro h2
  ·refine wh ?_;exact⟨[],[some 0,some 1],_,_,_,t3,rfl,rfl,rfl⟩
  ·exact absurd h0 h2
@[reducible] def Wb (l:List bo):TO:=.arr 7 true (l.map b7)
theorem pj (after:Int):∀(l:List bo) (left:Int) (u:bo),bR after (l++[u]) left=bR after l left++(if u.seq≤after∨left - (bR after l left).length<1 then []else [u])
 |[],left,u=>by
  show bR after [u] left=[]++_;unfold bR;simp only[bR,List.length_nil,List.nil_append];split<;>split<;>first|rfl |(rename_i h1 h2;exact absurd (by simpa using h1) (by simpa using h2))|(rename_i h1 h2;exact absurd (by simpa using h2) (by simpa using h1))
 |x::l,left,u=>by
  show bR after (x::(l++[u])) left=bR after (x::l) left++_;unfold bR;split
  ·exact pj after l left u
  ·rw[pj after l (left - 1) u,List.cons_append];have:left - 1 - ((bR after l (left - 1)).length:Int)=left - (((x::bR after l (left - 1)).length:Nat):Int):=by simp;omega
   rw[this]
theorem kO (after:Int):∀(l:List bo) (left:Int),(bR after l left).length≤l.length
 |[],_=>Nat.le_refl _
 |u::l,left=>by
  unfold bR;split
  ·have:=kO after l left;simp;omega
  ·have:=kO after l (left - 1);simp;omega
theorem lC (after:Int):∀(l:List bo) (left:Int),0≤left→((bR after l left).length:Int)≤left
 |[],left,h=>by simpa[bR]using h
 |u::l,left,h=>by
  unfold bR;split
  ·exact lC after l left h
  ·have:=lC after l (left - 1) om;simp;omega
theorem qZ (after:Int):∀(l:List bo) (left:Int) (u:bo),u∈bR after l left→u∈l
 |[],_,u,h=>by cases h
 |x::l,left,u,h=>by
  unfold bR at h;split at h
  ·exact List.mem_cons_of_mem _ (qZ after l left u h)
  ·rcases List.mem_cons.1 h with rfl |h
   ·exact List.mem_cons_self
   ·exact List.mem_cons_of_mem _ (qZ after l (left - 1) u h)
@[reducible] def Iq (n:Int):TO:=.cells [.s (.int .u64 n)]
@[reducible] def UT (n:Int):TO:=.cells [.s (.int .i64 n)]
theorem J8 (after left:Int) (u:bo) (h:u.seq≤after∨left<1):VC E0 160 2 [.agg (b7 u),.ptr 0 0,.ptr 1 0] [(0,Iq after),(1,UT left)] (RR (.s (.bool false)) 2 [(0,Iq after),(1,UT left)]):=by
 refine en L0 Tryz.f160 ?_;refine sp ?_ ?_<;>intro h1
 ·refine wh ?_;exact⟨[],[some 0,some 1],_,_,_,t3,rfl,rfl,rfl⟩
 ·refine wh ?_;refine sp ?_ ?_<;>intro h2
  ·refine wh ?_;exact⟨[],[some 0,some 1],_,_,_,t3,rfl,rfl,rfl⟩
  ·exact absurd h (by intro q;rcases q with q|q;exact h1 q;exact h2 q)
theorem GC (after left:Int) (u:bo) (h:¬(u.seq≤after∨left<1)) (hl:left<1000000):VC E0 160 2 [.agg (b7 u),.ptr 0 0,.ptr 1 0] [(0,Iq after),(1,UT left)] (RR (.s (.bool true)) 2 [(0,Iq after),(1,UT (left - 1))]):=by
 have hw:IntKind.i64.wrap (left - 1)=left - 1:=IntWalk.i64_in _ om;refine en L0 Tryz.f160 ?_;refine sp ?_ ?_<;>intro h1
 ·exact absurd (.inl h1) h
 ·refine wh ?_;refine sp ?_ ?_<;>intro h2
  ·exact absurd (.inr h2) h
  ·refine wh ?_;rw[hw];exact⟨[],[some 0,some 1],_,_,_,t3,rfl,rfl,rfl⟩
@[reducible] def Yu (a b:Nat):TV:=.dc 160 [] [.ptr a 0,.ptr b 0]
theorem NF (l:List bo) (after left:Int) (hl:l.length<100000) (h0:0≤left∧left<100000) (hd:∀u∈l,u.data.length<1000000):VC E0 104 3 [.tk 0,Yu 1 2] [(0,Wb l),(1,Iq after),(2,UT left)]
 (RR (.sl 7 ((bR after l left).map b7) false) 3 [(0,Wb l),(1,Iq after),(2,UT (left - (bR after l left).length))]):=by
 refine en L0 Tryz.f104 ?_;refine⟨fun k f o c=>∃i:Nat,i≤l.length∧k=l.length - i∧c=4∧f=[(1,Yu 1 2),(5,.tk 3),(8,.tk 0),(9,.s (.int .i64 l.length)),(10,.s (.int .i64 i))]∧o=[(0,Wb l),(1,Iq after),(2,UT (left - (bR after (l.take i) left).length)),(3,.arr 7 true ((bR after (l.take i) left).map b7))],⟨l.length,?_⟩,?_⟩
 ·refine⟨[],[some 0,some 1,some 2,none],?_⟩
  iterate 3 constructor
  refine⟨⟨?_,?_,?_⟩,⟨0,Nat.zero_le _,rfl,rfl,rfl,rfl⟩⟩
  all_goals(repeat' first|exact LF|constructor)
  ·exact Lz.int (by rw[List.length_map])
  ·exact Lz.int (by simp[bR])
 ·rintro k f1 o1 c1 ⟨i,hi,rfl,rfl,rfl,rfl⟩;refine wh ?_;refine sp ?_ ?_<;>intro h
  ·have h:i<l.length:=by have h:(i:Int)<l.length:=h
                         omega
   have hs:bR after (l.take (i+1)) left=bR after (l.take i) left++(if l[i].seq≤after∨left - (bR after (l.take i) left).length<1 then []else [l[i]]):=by rw[g8 l i h,pj]
   have K9:=kO after (l.take i) left;have dS:=lC after (l.take i) left h0.1;rw[List.length_take]at K9;have Sy:=hd _ (List.getElem_mem h);have EN:IntKind.i64.wrap ((i:Int)+1)=((i+1:Nat):Int):=IntWalk.i64_in _ om;refine wh ?_;refine⟨⟨om,by rw[List.length_map];omega⟩,?_⟩;refine wh ?_;refine⟨b7 l[i],by simp[h],?_⟩;refine wh ?_;by_cases hq:l[i].seq≤after∨left - (bR after (l.take i) left).length<1
   ·rw[if_pos hq,List.append_nil]at hs;refine⟨[],[some 1,some 2],_,_,_,_,J8 after _ l[i] hq,t3,cw ?_⟩;refine⟨l.length - (i+1),?_,om⟩;rw[EN,←hs];exact⟨[],[some 0,some 1,some 2,some 3],_,_,_,t3,⟨i+1,h,rfl,rfl,rfl,rfl⟩⟩
   ·rw[if_neg hq]at hs;refine⟨[],[some 1,some 2],_,_,_,_,GC after _ l[i] hq om,t3,cw ?_⟩;refine⟨[],[],_,_,_,_,pg l[i].data Sy,t3,cw ?_⟩;refine⟨by simp;omega,?_⟩;refine wh ?_;refine⟨l.length - (i+1),?_,om⟩;rw[EN];refine⟨[],[some 0,some 1,some 2,some 8],?_⟩
    iterate 3 constructor
    refine⟨⟨?_,?_,?_⟩,⟨i+1,h,rfl,rfl,rfl,rfl⟩⟩
    all_goals(repeat' first|exact LF|constructor)
    all_goals first|exact Lz.int (by rw[hs,List.length_append];simp;omega)|exact Lz.of (by rw[hs,List.map_append];rfl)
  ·obtain rfl:i=l.length:=by have h:¬(i:Int)<l.length:=h;omega
   rw[List.take_length];refine wh ?_;exact⟨[3],[some 0,some 1,some 2],_,_,_,t3,rfl,rfl,rfl⟩
theorem Ef (l:List bo) (after left:Int) (hl:l.length<100000) (h0:0≤left∧left<100000) (hd:∀u∈l,u.data.length<1000000):VC E0 109 1 [.tk 0,.s (.int .u64 after),.s (.int .i64 left)] [(0,Wb l)]
 (RR (.sl 7 ((bR after l left).map b7) false) 1 [(0,Wb l)]):=by
 refine en L0 Tryz.f109 ?_;refine⟨[],[some 0,some 1,some 2],_,_,_,_,NF l after left hl h0 hd,t3,cw ?_⟩;exact⟨[],[some 0],_,_,_,t3,rfl,rfl,rfl⟩
theorem NG (u:bo):VC E0 189 0 [.agg (b7 u)] [] (RR (.s (.bool true)) 0 []):=by
 refine en L0 Tryz.f189 ?_;exact⟨[],[],_,_,_,t3,rfl,rfl,rfl⟩
theorem NH (u:bo) (hd:u.data.length≤2048):VC E0 104 0 [.sl 7 [b7 u] false,.dc 189 [] []] [] (RR (.sl 7 [b7 u] false) 0 []):=by
 refine VC.dM L0 (show E0.func 104=some Tryz.f104 by kernel_rfl) (fun _ _=>rfl) rfl rfl [999999] ?_;refine wh ?_
 repeat((first|(refine⟨fun h_=>?_,fun h_=>?_⟩)|(refine ba (fun h_=>?_) (fun h_=>?_))|(refine a9 (fun h_=>?_) (fun h_=>?_)))<;>first|(exfalso;revert h_;decide;done)|(exfalso;revert h_;simp;done)|(have eo:=True.intro;clear eo;(conv=>whnf)))
 refine⟨b7 u,⟨by decide,rfl⟩,?_⟩;refine wh ?_;refine⟨[],[],_,_,_,_,NG u,t3,cw ?_⟩;refine⟨[],[],_,_,_,_,pg u.data om,t3,cw ?_⟩;refine⟨by simp,?_⟩;refine wh ?_;rw[X7]
 repeat((first|(refine⟨fun h_=>?_,fun h_=>?_⟩)|(refine ba (fun h_=>?_) (fun h_=>?_))|(refine a9 (fun h_=>?_) (fun h_=>?_)))<;>first|(exfalso;revert h_;decide;done)|(exfalso;revert h_;simp;done)|(have eo:=True.intro;clear eo;(conv=>whnf)))
 exact⟨[2],[],_,_,_,t3,rfl,rfl,rfl⟩
theorem NJ (u:bo) (hd:u.data.length≤2048):VC E0 150 0 [.sl 7 [b7 u] false] [] (RR (.sl 7 [b7 u] false) 0 []):=by
 refine en L0 Tryz.f150 ?_;refine⟨[],[],_,_,_,_,NH u hd,t3,cw ?_⟩;exact⟨[],[],_,_,_,t3,rfl,rfl,rfl⟩
@[reducible] def UU (w:gy):TO:=.cells [.s (.int .u64 w.low),.s (.int .u64 w.done),.own (Wb w.l)]
@[reducible] def iF (w:gy):Ob:=[(0,UU w)]
structure sL (w:gy):Prop where
 low:0≤w.low∧w.low≤50000
 done:0≤w.done∧w.done≤50000
 len:w.l.length≤10000
 data:∀u∈w.l,u.data.length≤2048
theorem abH {w:gy} (H:sL w):IntKind.u64.wrap (w.low+IntKind.u64.wrap (((w.l.map b7).length:Nat):Int))=aE w:=by
 have:=H.low;have:=H.len;rw[List.length_map,IntWalk.u64_in ((w.l.length:Nat):Int) om,IntWalk.u64_in _ om]
theorem QS (n:Int):VC E0 49 0 [.s (.int .u64 n)] [] (RR (.ptr 0 0) 1 (iF ⟨n,n,[]⟩)):=by
 refine en L0 Tryz.f49 ?_;exact⟨[],[some 0],_,_,_,t3,rfl,rfl,rfl⟩
theorem eG (w:gy) (H:sL w):VC E0 42 1 [.ptr 0 0] (iF w) (RR (.s (.int .u64 (aE w))) 1 (iF w)):=by
 have hw:=abH H;refine en L0 Tryz.f42 ?_
 repeat((first|(refine⟨fun h_=>?_,fun h_=>?_⟩)|(refine ba (fun h_=>?_) (fun h_=>?_))|(refine a9 (fun h_=>?_) (fun h_=>?_)))<;>first|(exfalso;revert h_;decide;done)|(exact absurd rfl h_)|(have eo:=True.intro;clear eo;(conv=>whnf)))
 rw[hw];exact⟨[],[some 0],_,_,_,t3,rfl,rfl,rfl⟩
theorem mM (w:gy):VC E0 33 1 [.ptr 0 0] (iF w) (RR (.s (.int .u64 w.done)) 1 (iF w)):=by
 refine en L0 Tryz.f33 ?_
 repeat((first|(refine⟨fun h_=>?_,fun h_=>?_⟩)|(refine ba (fun h_=>?_) (fun h_=>?_))|(refine a9 (fun h_=>?_) (fun h_=>?_)))<;>first|(exfalso;revert h_;decide;done)|(exact absurd rfl h_)|(have eo:=True.intro;clear eo;(conv=>whnf)))
 exact⟨[],[some 0],_,_,_,t3,rfl,rfl,rfl⟩
theorem NK (w:gy) (H:sL w) (h:aE w<32):VC E0 119 1 [.ptr 0 0] (iF w) (RR (.cY []) 1 (iF w)):=by
 have hw:=eG w H;refine en L0 Tryz.f119 ?_;refine⟨[],[some 0],_,_,_,_,hw,t3,cw ?_⟩;refine sp ?_ ?_<;>intro h1
 ·refine wh ?_;exact⟨[],[some 0],_,_,_,t3,rfl,rfl,rfl⟩
 ·exact absurd h h1
theorem Eg (w:gy) (H:sL w):VC E0 119 1 [.ptr 0 0] (iF w) (RR (.cY []) 1 (iF (lB w))):=by
 by_cases h:aE w<32
 ·rw[show lB w=w from if_pos h];exact NK w H h
 have hw:=eG w H;have hE:aE w=w.low+(w.l.length:Nat):=rfl;have GD:=H.done;have uv:=H.low;have hle:=H.len;have et:lB w={w with low:=max w.low (min w.done (aE w - 32)),l:=w.l.drop (max w.low (min w.done (aE w - 32)) - w.low).toNat}:=if_neg h;rw[et];refine en L0 Tryz.f119 ?_;refine⟨[],[some 0],_,_,_,_,hw,t3,cw ?_⟩;refine sp ?_ ?_<;>intro h1
 ·exact absurd h1 h
 obtain⟨lo,Yv⟩:∃lo,lo=max w.low (min w.done (aE w - 32)):=⟨_,rfl⟩;rw[←Yv];have KT:IntKind.u64.wrap (aE w - 32)=aE w - 32:=IntWalk.u64_in _ om;have EG:(if(if aE w - 32<w.done then aE w - 32 else w.done)>w.low then(if aE w - 32<w.done then aE w - 32 else w.done)else w.low)=lo:=by
  rw[Yv];generalize aE w=e;split<;>split<;>omega
 have Mb:IntKind.u64.wrap (lo - w.low)=lo - w.low:=IntWalk.u64_in _ om;have NL:IntKind.i64.wrap (lo - w.low)=lo - w.low:=IntWalk.i64_in _ om;have O0:List.drop (lo - w.low).toNat (List.take (((w.l.map b7).length:Nat):Int).toNat (w.l.map b7))=(w.l.drop (lo - w.low).toNat).map b7:=by
  rw[List.take_of_length_le (by simp),List.map_drop]
 refine wh ?_;rw[KT];rw[EG,Mb,NL];refine⟨⟨om,by rw[List.length_map];omega,rfl,Int.le_refl _⟩,?_⟩;refine wh ?_;rw[O0];refine⟨by simp<;>omega,?_⟩;refine wh ?_;exact⟨[],[some 0],_,_,_,t3,rfl,rfl,rfl⟩
theorem QT (w:gy) (u:bo) (H:sL w) (hu:o9 u=0) (hs:u.seq - 1=aE w) (h0:1≤u.seq) (hL:w.l.length<9999):VC E0 103 1 [.ptr 0 0,.agg (b7 u)] (iF w) (RR (.s (.int .i64 0)) 1 (iF (xU w u))):=by
 have hc:=xX u;rw[hu]at hc;have hE:aE w=w.low+(w.l.length:Nat):=rfl;have uv:=H.low;have hle:=H.len;have Wa:u.data.length≤2048:=(Ip hu).2;have KT:IntKind.u64.wrap (u.seq - 1)=u.seq - 1:=IntWalk.u64_in _ om;have dX:=eG w H;have H2:sL {w with l:=w.l++[u]}:=⟨H.low,H.done,by rw[List.length_append];simp;omega,fun x hx=>by
  rcases List.mem_append.1 hx with q|q
  ·exact H.data x q
  ·simp at q;subst q;exact Wa⟩
 have e2:aE {w with l:=w.l++[u]}=aE w+1:=by show w.low+((w.l++[u]).length:Nat)=_;rw[List.length_append,hE];simp;omega
 have Tm:=Eg {w with l:=w.l++[u]} H2;have e:xU w u=lB {w with l:=w.l++[u]}:=by
  unfold xU;rw[if_neg (not_not_intro hu),if_neg (not_not_intro hs)]
 rw[e];refine en L0 Tryz.f103 ?_
 repeat((first|(refine⟨fun h_=>?_,fun h_=>?_⟩)|(refine ba (fun h_=>?_) (fun h_=>?_))|(refine a9 (fun h_=>?_) (fun h_=>?_)))<;>first|(exfalso;revert h_;decide;done)|(exact absurd rfl h_)|(have eo:=True.intro;clear eo;(conv=>whnf)))
 refine⟨[],[],_,_,_,_,hc,t3,cw ?_⟩
 repeat((first|(refine⟨fun h_=>?_,fun h_=>?_⟩)|(refine ba (fun h_=>?_) (fun h_=>?_))|(refine a9 (fun h_=>?_) (fun h_=>?_)))<;>first|(exfalso;revert h_;decide;done)|(exact absurd rfl h_)|(have eo:=True.intro;clear eo;((conv=>whnf)<;>repeat(with_reducible refine D1 ?_)<;>conv=>whnf)))
 rw[KT];refine⟨[],[some 0],_,_,_,_,dX,t3,cw ?_⟩;refine sp ?_ ?_<;>intro bj
 ·exact absurd hs bj
 refine wh ?_;refine⟨[4],[],_,_,_,_,NJ u Wa,t3,cw ?_⟩;refine⟨by simp;omega,?_⟩;refine wh ?_;refine⟨[],[some 0],_,_,_,_,Tm,⟨by((repeat' first|exact LF|constructor);all_goals(exact Lz.of (by rw[List.map_append];rfl))),by((repeat' first|exact LF|constructor);all_goals(exact Lz.of (by rw[List.map_append];rfl))),by rfl⟩,?_⟩;rintro r o' c' ⟨rfl,rfl,rfl⟩;refine wh ?_;exact⟨[],[some 0],_,_,_,t3,rfl,rfl,rfl⟩
theorem Ir (w:gy) (H:sL w) (bl kc:Int) (h0:0≤kc∧kc<100000) (l:List bo) (h:g9 w bl kc=some l):VC E0 68 1 [.ptr 0 0,.s (.int .u64 bl),.s (.int .i64 kc)] (iF w) (RR (.cY [.sl 7 (l.map b7) false,.s (.bool true)]) 1 (iF w)):=by
 have dX:=eG w H;unfold g9 at h;split at h
 ·cases h
 rename_i hn;cases h;rw[not_or]at hn;have hb:=Ef w.l bl kc (by have:=H.len;omega) h0 (fun u hu=>by have:=H.data u hu;omega);refine en L0 Tryz.f68 ?_;refine sp ?_ ?_<;>intro h1
 ·exact absurd h1 hn.1
 refine wh ?_;refine⟨[],[some 0],_,_,_,_,dX,t3,cw ?_⟩;refine sp ?_ ?_<;>intro h2
 ·exact absurd h2 hn.2
 refine wh ?_;refine⟨[],[some 2],_,_,_,_,hb,t3,cw ?_⟩;exact⟨[],[some 0],_,_,_,t3,rfl,rfl,rfl⟩
theorem UW (w:gy) (n:Int):(if(if aE w<n then aE w else n)>w.done then(if aE w<n then aE w else n)else w.done)=b6 w n:=by
 unfold b6;generalize aE w=e;split<;>split<;>omega
theorem NM (w:gy) (n:Int) (H:sL w) (_:0≤n∧n≤1000000) (hd:w.done≤aE w) (h5:aE w≤50000):VC E0 90 1 [.ptr 0 0,.s (.int .u64 n)] (iF w) (RR (.sl 7 ((cM w n).1.map b7) false) 1 (iF (cM w n).2)):=by
 have dX:=eG w H;have hE:aE w=w.low+(w.l.length:Nat):=rfl;have GD:=H.done;have uv:=H.low;have hle:=H.len;have hr:w.done≤b6 w n∧b6 w n≤aE w:=by unfold b6;omega
 have H2:sL {w with done:=b6 w n}:=⟨H.low,by show 0≤b6 w n∧b6 w n≤50000;omega,H.len,H.data⟩;have hb:=Ef w.l w.done (b6 w n - w.done) om om (fun u hu=>by have:=H.data u hu;omega);have Tm:=Eg {w with done:=b6 w n} H2;have e:cM w n=(bR w.done w.l (b6 w n - w.done),lB {w with done:=b6 w n}):=rfl;have KT:IntKind.u64.wrap (b6 w n - w.done)=b6 w n - w.done:=IntWalk.u64_in _ om;have Mb:IntKind.i64.wrap (b6 w n - w.done)=b6 w n - w.done:=IntWalk.i64_in _ om;rw[e];refine en L0 Tryz.f90 ?_;refine⟨[],[some 0],_,_,_,_,dX,t3,cw ?_⟩;rw[UW w n,KT,Mb];refine⟨[],[some 2],_,_,_,_,hb,t3,cw ?_⟩
 refine⟨[],[some 0],_,_,_,_,Tm,t3,cw ?_⟩;exact⟨[],[some 0],_,_,_,t3,rfl,rfl,rfl⟩
theorem Ai (w:gy) (H:sL w) (hd:w.done≤aE w):VC E0 43 1 [.ptr 0 0] (iF w) (RR (.s (.int .i64 (iE w))) 1 (iF w)):=by
 have dX:=eG w H;have hE:aE w=w.low+(w.l.length:Nat):=rfl;have GD:=H.done;have uv:=H.low;have hle:=H.len;have KT:IntKind.u64.wrap (aE w - w.done)=aE w - w.done:=IntWalk.u64_in _ om;have Mb:IntKind.i64.wrap (aE w - w.done)=aE w - w.done:=IntWalk.i64_in _ om;refine en L0 Tryz.f43 ?_;refine⟨[],[some 0],_,_,_,_,dX,t3,cw ?_⟩;refine⟨[],[some 0],_,_,_,_,mM w,t3,cw ?_⟩;rw[KT,Mb];exact⟨[],[some 0],_,_,_,t3,rfl,rfl,rfl⟩
theorem Eh (w:gy) (H:sL w) (hd:w.done≤aE w):VC E0 61 1 [.ptr 0 0] (iF w) (RR (.s (.bool (decide (iE w<16)))) 1 (iF w)):=by
 have Sy:=Ai w H hd;refine en L0 Tryz.f61 ?_;refine⟨[],[some 0],_,_,_,_,Sy,t3,cw ?_⟩;refine sp ?_ ?_<;>intro h
 ·have h:iE w<16:=h;refine wh ?_;refine⟨[],[some 0],_,_,_,tx ?_,rfl,rfl,rfl⟩;exact Lz.of (aT (Eq.symm (decide_eq_true h)))
 ·have h:¬iE w<16:=h;refine wh ?_;refine⟨[],[some 0],_,_,_,tx ?_,rfl,rfl,rfl⟩;exact Lz.of (aT (Eq.symm (decide_eq_false h)))
@[reducible] def aL (n:Int):List TV:=[.s (.int .i64 n)]
def bS (c:CF):List TV:=[.s (.int .i64 c.chain),.s (.int .u64 c.aB),.sl 1 (c.nodes.map aL) false,.s (.bool c.fresh),.s (.int .i64 c.join)]
theorem Aj (l:List Int) (x:Int) (hl:l.length<1000000):VC E0 82 0 [.sl 1 (l.map aL) false,.s (.int .i64 x)] []
 (fun r o c=>∃i:Int,r= .s (.int .i64 i)∧((x∉l∧i= -1)∨(i=ic x l∧ic x l<l.length))∧c=0∧o=[]):=by
 refine en L0 Tryz.f82 ?_;refine⟨fun k f o c=>∃j:Nat,j≤l.length∧k=l.length - j∧x∉l.take j∧c=0∧f=[(0,.sl 1 (l.map aL) false),(1,.s (.int .i64 x)),(7,.s (.int .i64 l.length)),(8,.s (.int .i64 j))]∧o=[],⟨l.length,?_⟩,?_⟩
 ·refine⟨[],[],_,_,_,tx ?_,⟨0,Nat.zero_le _,rfl,by simp,rfl,rfl,rfl⟩⟩;exact Lz.int (by rw[List.length_map])
 ·rintro k f1 o1 c1 ⟨j,hj,rfl,hn,rfl,rfl,rfl⟩;refine wh ?_;refine sp ?_ ?_<;>intro h
  ·have h:j<l.length:=by have:(j:Int)<(l.length:Nat):=h
                         omega
   refine wh ?_;refine lW h ?_;refine wh ?_;refine sp ?_ ?_<;>intro he
   ·have he:x=l[j]:=he;have hx:=BT h he.symm hn;refine wh ?_;exact⟨[],[],_,_,_,t3,_,rfl,.inr ⟨by rw[hx],by rw[hx];exact h⟩,rfl,rfl⟩
   ·have he:¬x=l[j]:=he;refine wh ?_;refine⟨l.length - (j+1),?_,om⟩;exact⟨[],[],_,_,_,t3,⟨j+1,h,rfl,(by rw[List.take_succ_eq_append_getElem h];simp only[List.mem_append,List.mem_singleton,not_or];exact⟨hn,he⟩),rfl,rfl,rfl⟩⟩
  ·have Yw:j=l.length:=by have:¬(j:Int)<(l.length:Nat):=h
                          omega
   subst Yw;rw[List.take_length]at hn;refine wh ?_;exact⟨[],[],_,_,_,t3,_,rfl,.inl ⟨hn,rfl⟩,rfl,rfl⟩
theorem J9 (l:List Int) (x:Int) (hl:l.length<1000000):VC E0 82 0 [.sl 1 (l.map aL) false,.s (.int .i64 x)] []
 (fun r o c=>∃i:Int,r= .s (.int .i64 i)∧(0≤i↔x∈l)∧c=0∧o=[]):=
 (Aj l x hl).mono fun r o c ⟨i,h1,h2,h3⟩=>⟨i,h1,by
  rcases h2 with⟨q,rfl⟩|⟨rfl,q⟩
  ·exact⟨fun h=>absurd h (by decide),fun h=>absurd h q⟩
  ·exact⟨fun _=>D0 q,fun _=>Int.natCast_nonneg _⟩,h3⟩
theorem nJ (l:List Int) (x:Int) (hl:l.length<1000000):VC E0 41 0 [.sl 1 (l.map aL) false,.s (.int .i64 x)] [] (RR (.s (.bool (decide (x∈l)))) 0 []):=by
 refine en L0 Tryz.f41 ?_;refine⟨[],[],_,_,_,_,J9 l x hl,t3,?_⟩;rintro r o' c' ⟨i,rfl,hi,rfl,rfl⟩;refine wh ?_;refine sp ?_ ?_<;>intro vq
 ·have vq:i≥0:=vq;refine wh ?_;refine⟨[],[],_,_,_,tx ?_,rfl,rfl,rfl⟩;exact Lz.of (aT (Eq.symm (decide_eq_true (hi.1 vq))))
 ·have vq:¬i≥0:=vq;refine wh ?_;refine⟨[],[],_,_,_,tx ?_,rfl,rfl,rfl⟩;exact Lz.of (aT (Eq.symm (decide_eq_false (mt hi.2 vq))))
theorem uf (l:List Int) (hl:l.length<1000000):VC E0 143 0 [.sl 1 (l.map aL) false] [] (RR (.tk 0) 1 [(0,.arr 1 true (l.map aL))]):=by
 refine en L0 Tryz.f143 ?_;refine⟨fun h=>?_,?_⟩
 ·have h:l=[]:=by simpa using h
  subst h;refine wh ?_;exact⟨[],[none],_,_,_,t3,rfl,rfl,rfl⟩
 ·refine wh ?_;refine⟨by simp;omega,?_⟩;refine wh ?_;exact⟨[],[some 1],_,_,_,t3,rfl,rfl,rfl⟩
def Sz (n:Int):Bool:=decide (1≤n∧n≤24)
theorem NN (n:Int):VC E0 142 0 [.s (.int .i64 n)] [] (RR (.s (.bool (Sz n))) 0 []):=by
 refine en L0 Tryz.f142 ?_;refine sp ?_ ?_<;>intro h1
 ·have h1:n≥1:=h1;refine wh ?_;refine sp ?_ ?_<;>intro h2
  ·have h2:n≤24:=h2;refine wh ?_;refine⟨[],[],_,_,_,tx ?_,rfl,rfl,rfl⟩;exact Lz.of (aT (Eq.symm (decide_eq_true ⟨h1,h2⟩)))
  ·have h2:¬n≤24:=h2;refine wh ?_;refine⟨[],[],_,_,_,tx ?_,rfl,rfl,rfl⟩;exact Lz.of (aT (Eq.symm (decide_eq_false fun h=>h2 h.2)))
 ·have h1:¬n≥1:=h1;refine wh ?_;refine⟨[],[],_,_,_,tx ?_,rfl,rfl,rfl⟩;exact Lz.of (aT (Eq.symm (decide_eq_false fun h=>h1 h.1)))
def jr (l:List Int):Prop:=l.Nodup∧∀n∈l,1≤n∧n≤24
instance (l:List Int):Decidable (jr l):=inferInstanceAs (Decidable (_∧_))
theorem Ei (l:List Int) (n:Int):jr (l++[n])↔jr l∧(1≤n∧n≤24)∧n∉l:=by
 unfold jr;rw[List.nodup_append];constructor
 ·rintro⟨⟨h1,_,h2⟩,h3⟩;exact⟨⟨h1,fun m hm=>h3 m (List.mem_append_left _ hm)⟩,h3 n (by simp),fun hm=>h2 n hm n (by simp) rfl⟩
 ·rintro⟨⟨h1,h2⟩,h3,h4⟩;refine⟨⟨h1,by simp,fun a ha b hb=>?_⟩,fun m hm=>?_⟩
  ·simp at hb;subst hb;rintro rfl;exact h4 ha
  ·rcases List.mem_append.1 hm with q|q
   ·exact h2 m q
   ·simp at q;subst q;exact h3
theorem uW {l:List Int} {i:Nat} (h:jr l):jr (l.take i):=⟨(List.take_sublist i l).nodup h.1,fun n hn=>h.2 n (List.mem_of_mem_take hn)⟩
theorem Is (l:List Int) (hl:l.length<1000000):VC E0 97 0 [.sl 1 (l.map aL) false] [] (RR (.s (.bool (decide (jr l)))) 0 []):=by
 refine en L0 Tryz.f97 ?_;refine⟨fun k f o c=>∃j:Nat,j≤l.length∧k=l.length - j∧jr (l.take j)∧c=0∧f=[(0,.sl 1 (l.map aL) false),(5,.sl 1 (l.map aL) false),(6,.s (.int .i64 l.length)),(7,.s (.int .i64 j))]∧o=[],⟨l.length,?_⟩,?_⟩
 ·refine⟨[],[],_,_,_,tx ?_,⟨0,Nat.zero_le _,rfl,⟨by simp,by simp⟩,rfl,rfl,rfl⟩⟩;exact Lz.int (by rw[List.length_map])
 ·rintro k f1 o1 c1 ⟨j,hj,rfl,hn,rfl,rfl,rfl⟩;refine wh ?_;refine sp ?_ ?_<;>intro h
  ·have h:j<l.length:=by have:(j:Int)<(l.length:Nat):=h
                         omega
   refine wh ?_;refine lW h ?_;refine wh ?_;have hs:=Ei (l.take j) l[j];rw[←List.take_succ_eq_append_getElem h]at hs;refine⟨[],[],_,_,_,_,NN l[j],t3,?_⟩;rintro r o' c' ⟨rfl,rfl,rfl⟩;have eo:=True.intro;clear eo;cases hb:Sz l[j]
   ·have hb:¬(1≤l[j]∧l[j]≤24):=of_decide_eq_false hb;refine wh ?_;refine⟨[],[],_,_,_,tx ?_,rfl,rfl,rfl⟩;exact Lz.of (aT (Eq.symm (decide_eq_false fun q=>hb (hs.1 (uW q)).2.1)))
   ·have hb:1≤l[j]∧l[j]≤24:=of_decide_eq_true hb;refine wh ?_;refine⟨⟨om,om,by simp;omega⟩,?_⟩;refine wh ?_;refine⟨[],[],_,_,_,_,nJ (l.take j) l[j] (by simp;omega),⟨by((repeat' first|exact LF|constructor);all_goals(exact Lz.of (by simp[List.map_take]))),by((repeat' first|exact LF|constructor);all_goals(exact Lz.of (by simp[List.map_take]))),by rfl⟩,?_⟩;rintro r o' c' ⟨rfl,rfl,rfl⟩;refine wh ?_;by_cases hm:l[j]∈l.take j
    ·rw[decide_eq_true hm];refine wh ?_;refine⟨[],[],_,_,_,tx ?_,rfl,rfl,rfl⟩;exact Lz.of (aT (Eq.symm (decide_eq_false fun q=>(hs.1 (uW q)).2.2 hm)))
    ·rw[decide_eq_false hm];refine wh ?_;refine⟨l.length - (j+1),?_,om⟩;exact⟨[],[],_,_,_,t3,⟨j+1,h,rfl,hs.2 ⟨hn,hb,hm⟩,rfl,rfl,rfl⟩⟩
  ·have Yw:j=l.length:=by have:¬(j:Int)<(l.length:Nat):=h
                          omega
   subst Yw;rw[List.take_length]at hn;refine wh ?_;refine⟨[],[],_,_,_,tx ?_,rfl,rfl,rfl⟩;exact Lz.of (aT (Eq.symm (decide_eq_true hn)))
def pn (c:CF):List Int:=c.nodes++(if c.join=0 then []else [c.join])
theorem GF (c:CF):(pn c).length≤c.nodes.length+1:=by unfold pn;split<;>simp
theorem ya (c:CF) (hl:c.nodes.length<100000):VC E0 98 0 [.agg (bS c)] [] (RR (.tk 0) 1 [(0,.arr 1 true ((pn c).map aL))]):=by
 refine en L0 Tryz.f98 ?_;refine sp ?_ ?_<;>intro hj
 ·have hj:c.join=0:=hj;refine wh ?_;refine⟨[],[],_,_,_,_,uf c.nodes om,t3,cw ?_⟩;refine⟨[],[some 1],_,_,_,tx ?_,rfl,rfl,rfl⟩;exact Lz.of (by unfold pn;simp[hj])
 ·have hj:¬c.join=0:=hj;refine wh ?_;refine⟨[],[],_,_,_,_,uf c.nodes om,t3,cw ?_⟩;refine⟨by simp;omega,?_⟩;refine wh ?_;refine⟨[],[some 3],_,_,_,tx ?_,rfl,rfl,rfl⟩;exact Lz.of (by unfold pn;simp[hj])
def cW (c:CF):Prop:=(0≤c.chain∧c.chain<4)∧1≤c.aB∧(1≤c.nodes.length∧c.nodes.length≤5)∧(c.fresh=true→2≤c.nodes.length∧c.join=0)∧jr (pn c)
instance (c:CF):Decidable (cW c):=inferInstanceAs (Decidable (_∧_))
theorem NO (c:CF):VC E0 55 0 [.agg (bS c)] [] (RR (.s (.bool (decide (cW c)))) 0 []):=by
 have yN:=GF c;refine en L0 Tryz.f55 ?_;refine sp ?_ ?_<;>intro h1
 ·have h1:c.chain<0:=h1;refine wh ?_;refine⟨[],[],_,_,_,tx ?_,rfl,rfl,rfl⟩;exact Lz.of (aT (Eq.symm (decide_eq_false fun q=>by obtain⟨⟨_,_⟩,_,⟨_,_⟩,_,_⟩:=q;omega)))
 have h1:¬c.chain<0:=h1;refine wh ?_;refine sp ?_ ?_<;>intro h2
 ·have h2:c.chain≥4:=h2;refine wh ?_;refine⟨[],[],_,_,_,tx ?_,rfl,rfl,rfl⟩;exact Lz.of (aT (Eq.symm (decide_eq_false fun q=>by obtain⟨⟨_,_⟩,_,⟨_,_⟩,_,_⟩:=q;omega)))
 have h2:¬c.chain≥4:=h2;refine wh ?_;refine sp ?_ ?_<;>intro h3
 ·have h3:c.aB<1:=h3;refine wh ?_;refine⟨[],[],_,_,_,tx ?_,rfl,rfl,rfl⟩;exact Lz.of (aT (Eq.symm (decide_eq_false fun q=>by obtain⟨⟨_,_⟩,_,⟨_,_⟩,_,_⟩:=q;omega)))
 have h3:¬c.aB<1:=h3;refine wh ?_;refine sp ?_ ?_<;>intro h4
 ·have h4:(((c.nodes.map aL).length:Nat):Int)<1:=h4;rw[List.length_map]at h4;refine wh ?_;refine⟨[],[],_,_,_,tx ?_,rfl,rfl,rfl⟩;exact Lz.of (aT (Eq.symm (decide_eq_false fun q=>by obtain⟨⟨_,_⟩,_,⟨_,_⟩,_,_⟩:=q;omega)))
 have h4:¬(((c.nodes.map aL).length:Nat):Int)<1:=h4;rw[List.length_map]at h4;refine wh ?_;refine sp ?_ ?_<;>intro h5
 ·have h5:(((c.nodes.map aL).length:Nat):Int)>5:=h5;rw[List.length_map]at h5;refine wh ?_;refine⟨[],[],_,_,_,tx ?_,rfl,rfl,rfl⟩;exact Lz.of (aT (Eq.symm (decide_eq_false fun q=>by obtain⟨⟨_,_⟩,_,⟨_,_⟩,_,_⟩:=q;omega)))
 have h5:¬(((c.nodes.map aL).length:Nat):Int)>5:=h5;rw[List.length_map]at h5;refine wh ?_;cases hf:c.fresh
 ·refine wh ?_;refine⟨[],[],_,_,_,_,ya c om,⟨by((repeat' first|exact LF|constructor);all_goals(exact Lz.of (aT hf.symm))),by((repeat' first|exact LF|constructor);all_goals(exact Lz.of (aT hf.symm))),by rfl⟩,?_⟩;rintro r o' c' ⟨rfl,rfl,rfl⟩;refine wh ?_;refine⟨[1],[],_,_,_,_,Is (pn c) om,t3,cw ?_⟩;refine⟨[],[],_,_,_,tx ?_,rfl,rfl,rfl⟩;exact Lz.of (aT (decide_eq_decide.2 ⟨fun q=>⟨⟨om,om⟩,om,⟨om,om⟩,(fun e=>absurd (hf.symm.trans e) (by decide)),q⟩,fun q=>q.2.2.2.2⟩))
 ·refine wh ?_;refine sp ?_ ?_<;>intro h6
  ·have h6:(((c.nodes.map aL).length:Nat):Int)<2:=h6;rw[List.length_map]at h6;refine wh ?_;refine⟨[],[],_,_,_,tx ?_,rfl,rfl,rfl⟩;exact Lz.of (aT (Eq.symm (decide_eq_false fun q=>by have:=q.2.2.2.1 hf;omega)))
  have h6:¬(((c.nodes.map aL).length:Nat):Int)<2:=h6;rw[List.length_map]at h6;refine wh ?_;refine sp ?_ ?_<;>intro h7
  ·have h7:c.join≠0:=h7;refine wh ?_;refine⟨[],[],_,_,_,tx ?_,rfl,rfl,rfl⟩;exact Lz.of (aT (Eq.symm (decide_eq_false fun q=>by have:=q.2.2.2.1 hf;omega)))
  have h7:c.join=0:=Classical.not_not.1 h7;refine wh ?_;refine⟨[],[],_,_,_,_,ya c om,⟨by((repeat' first|exact LF|constructor);all_goals(exact Lz.of (aT hf.symm))),by((repeat' first|exact LF|constructor);all_goals(exact Lz.of (aT hf.symm))),by rfl⟩,?_⟩;rintro r o' c' ⟨rfl,rfl,rfl⟩;refine wh ?_;refine⟨[1],[],_,_,_,_,Is (pn c) om,t3,cw ?_⟩;refine⟨[],[],_,_,_,tx ?_,rfl,rfl,rfl⟩;exact Lz.of (aT (decide_eq_decide.2 ⟨fun q=>⟨⟨om,om⟩,om,⟨om,om⟩,(fun e=>⟨om,h7⟩),q⟩,fun q=>q.2.2.2.2⟩))
theorem NP (c:CF) (hn:c.nodes.length<1000000):VC E0 118 0 [.agg (bS c)] [] (RR (.agg (bS c)) 0 []):=by
 refine en L0 Tryz.f118 ?_;refine⟨[],[],_,_,_,_,uf c.nodes hn,t3,cw ?_⟩;exact⟨[2],[],_,_,_,t3,rfl,rfl,rfl⟩
@[reducible] def ug:List TV:=[.s (.int .i64 0),.s (.int .u64 0),.sl 0 [] true,.s (.bool false),.s (.int .i64 0)]
def po (l:List CF) (j:Nat):List (List TV):=(l.take j).map bS++List.replicate (l.length - j) ug
theorem Ka (l:List CF) (j:Nat) (h:j≤l.length):(po l j).length=l.length:=by unfold po;simp;omega
theorem Kb (l:List CF) (j:Nat) (h:j<l.length):(po l j).set j (bS l[j])=po l (j+1):=by
 unfold po;have e:l.length - j=(l.length - (j+1))+1:=by omega
 have hlen:((l.take j).map bS).length=j:=by rw[List.length_map,List.length_take];omega
 rw[e,List.replicate_succ,List.set_append,if_neg om,hlen,Nat.sub_self,List.take_succ_eq_append_getElem h,List.map_append,List.append_assoc];rfl
theorem Kc (l:List CF) (j:Nat) (h:j<l.length):(po l j)[j]? =some ug:=by
 unfold po;have e:l.length - j=(l.length - (j+1))+1:=by omega
 have hlen:((l.take j).map bS).length=j:=by rw[List.length_map,List.length_take];omega
 rw[e,List.replicate_succ,List.getElem?_append_right om,hlen,Nat.sub_self];rfl
theorem Kd (l:List CF) (hl:l.length<10000) (hn:∀c∈l,c.nodes.length<1000000):VC E0 89 0 [.sl 5 (l.map bS) false] [] (RR (.tk 0) 1 [(0,.arr 5 true (l.map bS))]):=by
 refine en L0 Tryz.f89 ?_;refine⟨⟨om,om,by simp;omega⟩,?_⟩;refine wh ?_;refine⟨fun k f o c=>∃j:Nat,j≤l.length∧k=l.length - j∧c=1∧f=[(3,.tk 0),(9,.sl 5 (l.map bS) false),(10,.s (.int .i64 l.length)),(11,.s (.int .i64 j))]∧o=[(0,.arr 5 true (po l j))],⟨l.length,?_⟩,?_⟩
 ·refine⟨[],[some 0],?_⟩
  iterate 3 constructor
  refine⟨⟨?_,?_,?_⟩,⟨0,Nat.zero_le _,rfl,rfl,rfl,rfl⟩⟩
  all_goals(repeat' first|exact LF|constructor)
  ·exact Lz.int (by rw[List.length_map])
  ·exact Lz.of (by simp[po];exact .inr rfl)
 ·rintro k f1 o1 c1 ⟨j,hj,rfl,rfl,rfl,rfl⟩;refine wh ?_;refine sp ?_ ?_<;>intro h
  ·have h:j<l.length:=by have:(j:Int)<(l.length:Nat):=h
                         omega
   refine wh ?_;refine lW h ?_;refine wh ?_;refine⟨[],[],_,_,_,_,NP l[j] (hn _ (List.getElem_mem h)),t3,cw ?_⟩;refine⟨⟨om,by rw[Ka l j hj];omega⟩,?_⟩;refine wh ?_;refine⟨ug,by rw[Int.toNat_natCast];exact Kc l j h,?_⟩;refine wh ?_;refine⟨l.length - (j+1),?_,om⟩;refine⟨[],[some 0],_,_,_,tx ?_,⟨j+1,h,rfl,rfl,rfl,rfl⟩⟩;exact Lz.of (by rw[Int.toNat_natCast];exact Kb l j h)
  ·have Yw:j=l.length:=by have:¬(j:Int)<(l.length:Nat):=h
                          omega
   subst Yw;have hc:po l l.length=l.map bS:=by unfold po;simp
   rw[hc];refine wh ?_;exact⟨[],[some 0],_,_,_,t3,rfl,rfl,rfl⟩
@[reducible] def QU (r:H7):List TV:=[.s (.bool r.DZ),.s (.bool r.jY),.s (.bool r.head),.s (.bool r.tail),.s (.bool r.waits),.s (.int .i64 r.place),.s (.int .i64 r.pred),.s (.int .i64 r.succ)]
theorem pq (c:CF) (H:cW c):VC E0 55 0 [.agg (bS c)] [] (RR (.s (.bool true)) 0 []):=by
 have h:=NO c;rw[decide_eq_true H]at h;exact h
theorem NQ (c:CF) (H:cW c):VC E0 87 0 [.agg (bS c)] [] (RR (.s (.int .i64 (iT c))) 0 []):=by
 have hn:=H.2.2.1;have hw:IntKind.i64.wrap ((((c.nodes.map aL).length:Nat):Int) - 1)=((c.nodes.length - 1:Nat):Int):=by rw[List.length_map,IntWalk.i64_in _ om];omega
 have bF:c.nodes.length - 1<c.nodes.length:=by omega
 have e:iT c=c.nodes[c.nodes.length - 1]:=by unfold iT;simp[List.getD,bF]
 rw[e];refine en L0 Tryz.f87 ?_;refine⟨[],[],_,_,_,_,pq c H,t3,cw ?_⟩;rw[hw];refine lW bF ?_;refine wh ?_;exact⟨[],[],_,_,_,t3,rfl,rfl,rfl⟩
theorem kh (c:CF) (H:cW c) (node:Int):VC E0 47 0 [.agg (bS c),.s (.int .i64 node)] [] (RR (.agg (QU (aD c node))) 0 []):=by
 have hn:=H.2.2.1;have ht:=NQ c H;refine en L0 Tryz.f47 ?_;refine⟨[],[],_,_,_,_,pq c H,t3,cw ?_⟩;refine sp ?_ ?_<;>intro h0
 ·have h0:node=0:=h0;have e:aD c node=tY:=by unfold aD;rw[if_pos h0]
  rw[e];refine wh ?_;exact⟨[],[],_,_,_,t3,rfl,rfl,rfl⟩
 have h0:¬node=0:=h0;refine wh ?_;refine sp ?_ ?_<;>intro hj
 ·have hj:node=c.join:=hj;have e:aD c node=⟨false,true,false,false,true,0,iT c,0⟩:=by unfold aD;rw[if_neg h0,if_pos hj]
  rw[e];refine wh ?_;refine⟨[],[],_,_,_,_,ht,t3,cw ?_⟩;exact⟨[],[],_,_,_,t3,rfl,rfl,rfl⟩
 have hj:¬node=c.join:=hj;refine wh ?_;refine⟨[],[],_,_,_,_,Aj c.nodes node om,t3,?_⟩;rintro r o' c' ⟨i,rfl,hi,rfl,rfl⟩;rcases hi with⟨Cl,rfl⟩|⟨rfl,bF⟩
 ·have e:aD c node=tY:=by unfold aD;rw[if_neg h0,if_neg hj,if_neg (by rw[H8 Cl];omega)]
  rw[e];refine wh ?_
  repeat((first|(refine⟨fun h_=>?_,fun h_=>?_⟩)|(refine ba (fun h_=>?_) (fun h_=>?_))|(refine a9 (fun h_=>?_) (fun h_=>?_)))<;>first|(exfalso;revert h_;decide;done)|(exact absurd rfl h_)|(have eo:=True.intro;clear eo;(conv=>whnf)))
  exact⟨[],[],_,_,_,t3,rfl,rfl,rfl⟩
 have Ej:aD c node=⟨true,false,decide (ic node c.nodes=0),decide (node=iT c),decide (node=iT c)&&c.fresh,(ic node c.nodes:Nat),if 0<ic node c.nodes then c.nodes.getD (ic node c.nodes - 1) 0 else 0,if decide (node=iT c)then c.join else c.nodes.getD (ic node c.nodes+1) 0⟩:=by
  unfold aD;rw[if_neg h0,if_neg hj,if_pos bF]
 have htl:node≠iT c→ic node c.nodes+1<c.nodes.length:=fun h=>by
  rcases Nat.lt_or_ge (ic node c.nodes+1) c.nodes.length with q|q
  ·exact q
  ·exfalso;apply h;have hx:=D4 bF;unfold iT;rw[show c.nodes.length - 1=ic node c.nodes by omega];simp[List.getD,bF,hx]
 generalize KY:ic node c.nodes=j at bF htl Ej;have hwp:IntKind.i64.wrap ((j:Int)+1)=((j+1:Nat):Int):=IntWalk.i64_in _ om;refine wh ?_;refine sp ?_ ?_<;>intro BY
 ·have BY:(j:Int)<0:=BY;omega
 refine wh ?_;refine sp ?_ ?_<;>intro hz
 ·have hz:(j:Int)=0:=hz;obtain rfl:j=0:=by omega
  refine wh ?_;refine⟨[],[],_,_,_,_,ht,t3,cw ?_⟩;refine sp ?_ ?_<;>intro nW
  ·have nW:node=iT c:=nW;have e:aD c node=⟨true,false,true,true,c.fresh,0,0,c.join⟩:=by rw[Ej];simp[nW]
   rw[e];refine wh ?_;refine sp ?_ ?_<;>intro hp
   ·exact absurd hp (by decide)
   refine wh ?_;exact⟨[],[],_,_,_,t3,rfl,rfl,rfl⟩
  ·have nW:¬node=iT c:=nW;have IY:=htl nW;have e:aD c node=⟨true,false,true,false,false,0,0,c.nodes[0+1]⟩:=by rw[Ej];simp[nW,List.getD,IY]
   rw[e];refine wh ?_;refine sp ?_ ?_<;>intro hp
   ·exact absurd hp (by decide)
   refine wh ?_;rw[hwp];refine lW IY ?_;refine wh ?_;exact⟨[],[],_,_,_,t3,rfl,rfl,rfl⟩
 ·have hz:¬(j:Int)=0:=hz;have hwm:IntKind.i64.wrap ((j:Int) - 1)=((j - 1:Nat):Int):=by rw[IntWalk.i64_in _ om];omega
  have S6:j - 1<c.nodes.length:=by omega
  have hjp:0<j:=by omega
  have hjz:j≠0:=by omega
  refine wh ?_;refine⟨[],[],_,_,_,_,ht,t3,cw ?_⟩;refine sp ?_ ?_<;>intro nW
  ·have nW:node=iT c:=nW;have e:aD c node=⟨true,false,false,true,c.fresh,(j:Nat),c.nodes[j - 1],c.join⟩:=by rw[Ej];simp[nW,hjz,hjp,List.getD,S6]
   rw[e];refine wh ?_;refine sp ?_ ?_<;>intro hp;rotate_left
   ·have hp:¬(j:Int)>0:=hp;omega
   refine wh ?_;rw[hwm];refine lW S6 ?_;refine wh ?_;exact⟨[],[],_,_,_,t3,rfl,rfl,rfl⟩
  ·have nW:¬node=iT c:=nW;have IY:=htl nW;have e:aD c node=⟨true,false,false,false,false,(j:Nat),c.nodes[j - 1],c.nodes[j+1]⟩:=by rw[Ej];simp[nW,hjz,hjp,List.getD,S6,IY]
   rw[e];refine wh ?_;refine sp ?_ ?_<;>intro hp;rotate_left
   ·have hp:¬(j:Int)>0:=hp;omega
   refine wh ?_;rw[hwm];refine lW S6 ?_;refine wh ?_;rw[hwp];refine lW IY ?_;refine wh ?_;exact⟨[],[],_,_,_,t3,rfl,rfl,rfl⟩
@[reducible] def nz (r:fB):Bool:=decide (r.num≠0)
@[reducible] def p8 (t:dN):List fB:=[t.r1,t.r2,t.r3,t.r4,t.r5,t.r6]
@[reducible] def hY (t:dN):List fB:=(p8 t).filter nz
theorem QV (t:dN) {c:Int} (h:1≤c∧c≤6):t.row c=(p8 t).getD (c - 1).toNat e6:=by
 rcases xZ h with rfl |rfl |rfl |rfl |rfl |rfl<;>rfl
theorem NR (t:dN) {i:Nat} (h:i<6):gK t ((i+1:Nat):Int)=if((p8 t).getD i e6).num=0 then(e6,false)else((p8 t).getD i e6,true):=by
 unfold gK;rw[QV t (c:=((i+1:Nat):Int)) om,show(((i+1:Nat):Int) - 1).toNat=i from by omega];by_cases hz:((p8 t).getD i e6).num=0
 ·rw[if_pos hz,if_pos (.inr hz)]
 ·rw[if_neg hz,if_neg (by rintro(q|q);omega;exact hz q)]
theorem NS (t:dN) {i:Nat} (h:i<6):(p8 t).take (i+1)=(p8 t).take i++[(p8 t).getD i e6]:=by
 rw[List.take_succ_eq_append_getElem (show i<(p8 t).length from h)];simp[List.getD,h]
end Go.M
namespace Go.M
open Go
@[reducible] def jH (n:Int):List TV:=[.s (.int .u8 n)]
def cP:Nat→Nat→List Int
 |0,_=>[]
 |w+1,n=>cP w (n / 256)++[((n % 256:Nat):Int)]
theorem bY:∀w n,(cP w n).length=w
 |0,_=>rfl
 |w+1,n=>by unfold cP;rw[List.length_append,bY w];rfl
theorem Ak:∀w n,cP (w+1) n=((n / 256 ^ w % 256:Nat):Int)::cP w n
 |0,n=>by simp[cP]
 |w+1,n=>by
  rw[cP,Ak w (n / 256),Nat.div_div_eq_div_mul,Nat.pow_succ',List.cons_append];rfl
def abJ (a b:Int):Int:=(a*256+b) % 18446744073709551616
def Yx (l:List Int):Int:=l.foldl abJ 0
theorem NT (n i:Nat) (h:i<9):I4 .shr .u64 .i64 (n:Int) (IntKind.i64.wrap (8*(i:Int)))=some (.int .u64 ((n / 256 ^ i:Nat):Int)):=by
 have hw:IntKind.i64.wrap (8*(i:Int))=((8*i:Nat):Int):=by rw[IntWalk.i64_in _ om];simp
 rw[hw];show eA (Op.shift .shr .u64 (n:Int) .i64 ((8*i:Nat):Int))=_;unfold Op.shift;rw[if_neg om,Int.toNat_natCast];have hm:min (8*i) IntKind.u64.bits=8*i∨i=8:=by
  show min (8*i) 64=_∨_;omega
 have e2:(2:Nat) ^ (8*i)=256 ^ i:=by rw[Nat.pow_mul]
 have ZR:min (8*i) IntKind.u64.bits=8*i:=by
  show min (8*i) 64=_;omega
 rw[ZR];show some (Value.int .u64 ((n:Int).fdiv (2 ^ (8*i))))=_
 congr 2
 rw[show((2:Int) ^ (8*i))=((256 ^ i:Nat):Int)from by rw[←e2];simp];exact(Int.ofNat_fdiv n (256 ^ i)).symm
structure QW where
 b:List Int
 e:Int
def QW.next (s:QW) (n:Nat):QW×Option (List Int):=
 if s.e≠0 then(s,none)else if s.b.length<n then(⟨[],3⟩,none)else(⟨s.b.drop n,0⟩,some (s.b.take n))
def QW.upto (s:QW) (w:Nat) (m:Int):QW×Int:=
 match s.next w with
 |(s',none)=>(s',0)
 |(s',some b)=>if Yx b>m then(⟨[],4⟩,0)else(s',Yx b)
def QW.get (s:QW) (w:Nat):QW×Int:=s.upto w 18446744073709551615
end Go.M
namespace Go.M
open Go Go.Proofs
set_option maxRecDepth 100000
set_option maxHeartbeats 4000000
theorem Ke (l:List Int) (hl:l.length<1000000):VC E0 81 0 [.sl 1 (l.map jH) false] [] (RR (.sl 1 (l.map jH) false) 0 []):=by
 refine en L0 Tryz.f81 ?_;refine⟨fun h=>?_,?_⟩
 ·have h:l=[]:=by simpa using h
  subst h;refine wh ?_;exact⟨[],[],_,_,_,t3,rfl,rfl,rfl⟩
 ·refine wh ?_;refine⟨by simp;omega,?_⟩;refine wh ?_;exact⟨[1],[],_,_,_,t3,rfl,rfl,rfl⟩
theorem NU (w:Nat) (h1:1≤w) (h8:w≤8):VC E0 69 0 [.s (.int .i64 w)] [] (RR (.s (.bool true)) 0 []):=by
 refine en L0 Tryz.f69 ?_;refine sp ?_ ?_<;>intro h
 ·refine wh ?_;refine sp ?_ ?_<;>intro h'
  ·refine wh ?_;exact⟨[],[],_,_,_,t3,rfl,rfl,rfl⟩
  ·exact absurd (show(w:Int)≤8 by omega) h'
 ·exact absurd (show(w:Int)≥1 by omega) h
theorem Ek (w i n:Nat) (h:i<w):((List.replicate (w - i) (0:Int)++cP i n).map jH).set (w - 1 - i) (jH ((n / 256 ^ i % 256:Nat):Int))=(List.replicate (w - (i+1)) (0:Int)++cP (i+1) n).map jH:=by
 have e:w - i=(w - (i+1))+1:=by omega
 rw[←List.map_set,e,List.replicate_succ',List.append_assoc,List.set_append_right _ _ (by simp;omega),Ak]
 congr 2
 rw[List.length_replicate,show w - 1 - i - (w - (i+1))=0 by omega];rfl
theorem NV (w i n:Nat) (h:i<w):((List.replicate (w - i) (0:Int)++cP i n).map jH)[w - 1 - i]? =some (jH 0):=by
 have e:w - i=(w - (i+1))+1:=by omega
 rw[e,List.replicate_succ',List.append_assoc,List.map_append,List.getElem?_append_right (by simp;omega)];simp;rw[show w - 1 - i - (w - (i+1))=0 by omega];rfl
theorem Iu (n:Nat) (w:Nat) (h1:1≤w) (h8:w≤8):VC E0 73 0 [.s (.int .u64 n),.s (.int .i64 w)] [] (RR (.tk 0) 1 [(0,.arr 1 true ((cP w n).map jH))]):=by
 refine en L0 Tryz.f73 ?_;refine⟨⟨om,om,om⟩,?_⟩;refine wh ?_;refine⟨fun k f o c=>∃i:Nat,i≤w∧k=w - i∧c=1∧f=[(0,.s (.int .u64 n)),(1,.s (.int .i64 w)),(5,.tk 0),(10,.s (.int .i64 w)),(11,.s (.int .i64 i))]∧o=[(0,.arr 1 true ((List.replicate (w - i) 0++cP i n).map jH))],⟨w,?_⟩,?_⟩
 ·refine⟨[],[some 0],?_⟩
  iterate 3 constructor
  refine⟨⟨?_,?_,?_⟩,⟨0,Nat.zero_le _,rfl,rfl,rfl,rfl⟩⟩
  all_goals(repeat' first|exact LF|constructor)
  all_goals first|exact Lz.int (by simp)|exact Lz.of (by simp[cP];exact .inr rfl)|trace_state
 ·rintro k f1 o1 c1 ⟨i,hi,rfl,rfl,rfl,rfl⟩;refine wh ?_;refine sp ?_ ?_<;>intro h
  ·have h:i<w:=by have:(i:Int)<w:=h
                  omega
   refine wh ?_;rw[NT n i om];refine wh ?_;have hw:IntKind.i64.wrap (IntKind.i64.wrap ((w:Int) - 1) - (i:Int))=((w - 1 - i:Nat):Int):=by
    rw[IntWalk.i64_in _ (by rw[IntWalk.i64_in _ om];omega),IntWalk.i64_in _ om];omega
   refine⟨by rw[hw];simp[bY];omega,?_⟩;refine wh ?_;refine⟨jH 0,by rw[hw,Int.toNat_natCast];exact NV w i n h,?_⟩;refine wh ?_;refine⟨w - (i+1),?_,om⟩;refine⟨[],[some 0],?_⟩
   iterate 3 constructor
   refine⟨⟨?_,?_,?_⟩,⟨i+1,h,rfl,rfl,rfl,rfl⟩⟩
   all_goals(repeat' first|exact LF|constructor)
   all_goals first|exact Lw.of (by rw[hw,Int.toNat_natCast,←Ek w i n h,IntKind.wrap_u8];simp)|exact Lz.of (by rw[hw,Int.toNat_natCast,←Ek w i n h,IntKind.wrap_u8];simp)|trace_state
  ·have yI:i=w:=by have:¬(i:Int)<w:=h
                   omega
   subst yI;rw[Nat.sub_self];refine wh ?_;exact⟨[],[some 0],_,_,_,t3,rfl,rfl,rfl⟩
theorem QX (n:Nat) (w:Nat) (h1:1≤w) (h8:w≤8) (hn:n<18446744073709551616):VC E0 71 0 [.s (.int .u64 n),.s (.int .i64 w)] [] (RR (.s (.bool (decide (n<256 ^ w)))) 0 []):=by
 refine en L0 Tryz.f71 ?_;refine sp ?_ ?_<;>intro h
 ·have h:w=8:=by have:(w:Int)=8:=h
                 omega
  subst h;refine wh ?_;refine⟨[],[],_,_,_,tx ?_,rfl,rfl,rfl⟩;exact Lz.of (aT (decide_eq_true (show n<256 ^ 8 by omega)).symm)
 ·refine wh ?_;rw[NT n w om];refine wh ?_;refine sp ?_ ?_<;>intro h0
  ·have h0:((n / 256 ^ w:Nat):Int)=0:=h0;refine wh ?_;refine⟨[],[],_,_,_,tx ?_,rfl,rfl,rfl⟩;exact Lz.of (aT (decide_eq_true (show n<256 ^ w from(Nat.div_eq_zero_iff_lt (Nat.pow_pos (by decide))).1 om)).symm)
  ·have h0:¬((n / 256 ^ w:Nat):Int)=0:=h0;refine wh ?_;refine⟨[],[],_,_,_,tx ?_,rfl,rfl,rfl⟩;exact Lz.of (aT (decide_eq_false (fun q=>h0 (by rw[(Nat.div_eq_zero_iff_lt (Nat.pow_pos (by decide))).2 q];rfl))).symm)
structure eW where
 b:List Int
 kc:Int
 e:Int
def eW.fail (s:eW) (e:Int):eW:=if s.e=0 then⟨s.b,s.kc,e⟩else s
def eW.put (s:eW) (x:List Int):eW:=if s.e≠0 then s else if(x.length:Int)>s.kc - s.b.length then⟨s.b,s.kc,6⟩else⟨s.b++x,s.kc,0⟩
def eW.num (s:eW) (n w:Nat):eW:=if n<256 ^ w then s.put (cP w n)else s.fail 4
structure eW.ok (s:eW):Prop where
 m:0≤s.kc∧s.kc≤1048576
 l:(s.b.length:Int)≤s.kc
@[reducible] def re (s:eW):TO:=.cells [.own (.arr 1 true (s.b.map jH)),.s (.int .i64 s.kc),.s (.int .i64 s.e)]
theorem UX (m:Nat):VC E0 34 0 [.s (.int .i64 m)] [] (RR (.ptr 0 0) 1 [(0,re ⟨[],m,0⟩)]):=by
 refine en L0 Tryz.f34 ?_;refine⟨[],[some 0],?_⟩
 iterate 3 constructor
 refine⟨⟨?_,?_,?_⟩,rfl,rfl,rfl⟩
 all_goals(repeat' first|exact LF|constructor)
 all_goals exact Lz.int (if_neg om)
theorem yb (s:eW) (e:Int):VC E0 70 1 [.ptr 0 0,.s (.int .i64 e)] [(0,re s)] (RR (.cY []) 1 [(0,re (s.fail e))]):=by
 refine en L0 Tryz.f70 ?_;refine sp ?_ ?_<;>intro h
 ·have h:s.e=0:=h;rw[show s.fail e=⟨s.b,s.kc,e⟩from if_pos h];refine wh ?_;exact⟨[],[some 0],_,_,_,t3,rfl,rfl,rfl⟩
 ·have h:¬s.e=0:=h;rw[show s.fail e=s from if_neg h];refine wh ?_;exact⟨[],[some 0],_,_,_,t3,rfl,rfl,rfl⟩
theorem NW (s:eW) (x:List Int) (hs:s.ok) (hx:s.b.length+x.length≤1000000):VC E0 72 1 [.ptr 0 0,.sl 1 (x.map jH) false] [(0,re s)] (RR (.cY []) 1 [(0,re (s.put x))]):=by
 obtain⟨⟨m0,m1⟩,hl⟩:=hs;refine en L0 Tryz.f72 ?_;refine sp ?_ ?_<;>intro h
 ·have h:s.e≠0:=h;rw[show s.put x=s from if_pos h];refine wh ?_;exact⟨[],[some 0],_,_,_,t3,rfl,rfl,rfl⟩
 ·have h:¬s.e≠0:=h;have h0:s.e=0:=by omega
  refine wh ?_;refine sp ?_ ?_<;>intro h2
  ·have h2:(x.length:Int)>s.kc - s.b.length:=by
    have:(((x.map jH).length:Nat):Int)>IntKind.i64.wrap (s.kc - (((s.b.map jH).length:Nat):Int)):=h2;rw[List.length_map,List.length_map,IntWalk.i64_in _ om]at this;exact this
   rw[show s.put x=s.fail 6 from by unfold eW.put eW.fail;rw[if_neg h,if_pos h2,if_pos h0]];refine wh ?_;refine⟨[],[some 0],_,_,_,_,yb s 6,t3,cw ?_⟩;exact⟨[],[some 0],_,_,_,t3,rfl,rfl,rfl⟩
  ·have h2:¬(x.length:Int)>s.kc - s.b.length:=by
    have:¬(((x.map jH).length:Nat):Int)>IntKind.i64.wrap (s.kc - (((s.b.map jH).length:Nat):Int)):=h2;rw[List.length_map,List.length_map,IntWalk.i64_in _ om]at this;exact this
   rw[show s.put x=⟨s.b++x,s.kc,0⟩from by unfold eW.put;rw[if_neg h,if_neg h2]];refine wh ?_;refine⟨by simp;omega,?_⟩;refine wh ?_;refine⟨[],[some 0],?_⟩
   iterate 3 constructor
   refine⟨⟨?_,?_,?_⟩,rfl,rfl,rfl⟩
   all_goals(repeat' first|exact LF|constructor)
   all_goals first|exact Lz.int h0|exact Lw.of (by simp)|exact Lz.of (by simp)|trace_state
theorem UY (s:eW) (n w:Nat) (hs:s.ok) (hx:s.b.length≤900000) (h1:1≤w) (h8:w≤8) (hn:n<18446744073709551616):VC E0 35 1 [.ptr 0 0,.s (.int .u64 n),.s (.int .i64 w)] [(0,re s)] (RR (.cY []) 1 [(0,re (s.num n w))]):=by
 have hf:=QX n w h1 h8 hn;refine en L0 Tryz.f35 ?_;refine⟨[],[],_,_,_,_,NU w h1 h8,t3,cw ?_⟩;by_cases h:n<256 ^ w
 ·rw[show s.num n w=s.put (cP w n)from if_pos h];rw[decide_eq_true h]at hf;refine⟨[],[],_,_,_,_,hf,t3,cw ?_⟩;refine⟨[],[],_,_,_,_,Iu n w h1 h8,t3,cw ?_⟩;refine⟨[1],[some 0],_,_,_,_,NW s (cP w n) hs (by rw[bY];omega),t3,cw ?_⟩;exact⟨[],[some 0],_,_,_,t3,rfl,rfl,rfl⟩
 ·rw[show s.num n w=s.fail 4 from if_neg h];rw[decide_eq_false h]at hf;refine⟨[],[],_,_,_,_,hf,t3,cw ?_⟩;refine⟨[],[some 0],_,_,_,_,yb s 4,t3,cw ?_⟩;exact⟨[],[some 0],_,_,_,t3,rfl,rfl,rfl⟩
theorem QY (s:eW) (hs:s.ok) (hx:s.b.length≤900000):VC E0 40 1 [.ptr 0 0] [(0,re s)] (RR (.cY [.sl 1 ((if s.e=0 then s.b else []).map jH) false,.s (.int .i64 s.e)]) 1 []):=by
 obtain⟨⟨m0,m1⟩,hl⟩:=hs;refine en L0 Tryz.f40 ?_;refine sp ?_ ?_<;>intro h
 ·have h:s.e≠0:=h;rw[if_neg h];refine wh ?_;exact⟨[],[some 0],_,_,_,t3,rfl,rfl,rfl⟩
 ·have h:s.e=0:=Classical.not_not.1 h;rw[if_pos h];refine wh ?_;refine⟨[1],[],_,_,_,_,Ke s.b om,t3,cw ?_⟩;refine⟨[],[some 0],?_⟩
  iterate 3 constructor
  refine⟨⟨?_,?_,?_⟩,rfl,rfl,rfl⟩
  all_goals(repeat' first|exact LF|constructor)
  all_goals exact Lz.int h.symm
theorem uh (l:List Int):(bM l).length=l.length:=by unfold bM;rw[List.length_map]
theorem Kf (a b:List Int):bM a++bM b=bM (a++b):=by unfold bM;rw[List.map_append]
theorem Kg {l:List Int} (h:bM l=[]):l=[]:=by unfold bM at h;simpa using h
structure Room (s:eW) (k:Nat):Prop where
 e:s.e=0
 m:s.kc=1048576
 l:s.b.length+k≤800000
@[reducible] def eW.add (s:eW) (x:List Int):eW:=⟨s.b++x,s.kc,0⟩
theorem Room.ok {s:eW} {k:Nat} (h:Room s k):s.ok:=⟨by rw[h.m];decide,by have:=h.l;rw[h.m];omega⟩
theorem Room.add {s:eW} {k:Nat} (h:Room s k) {x:List Int} {j:Nat} (hx:x.length+j≤k):Room (s.add x) j:=⟨rfl,h.m,by have:=h.l;show(s.b++x).length+j≤_;rw[List.length_append];omega⟩
theorem Room.put {s:eW} {k:Nat} (h:Room s k) {x:List Int} (hx:x.length≤k):s.put x=s.add x:=by
 have:=h.l;unfold eW.put;rw[if_neg (not_not_intro h.e),if_neg (by rw[h.m];omega)]
theorem Room.num {s:eW} {k:Nat} (h:Room s k) {n w:Nat} (hn:n<256 ^ w) (hw:w≤k):s.num n w=s.add (cP w n):=by
 unfold eW.num;rw[if_pos hn,h.put (by rw[bY];exact hw)]
theorem iG (s:eW) (n:Int) (w k:Nat) (h:Room s k) (hw:w≤k) (h1:1≤w) (h8:w≤8) (h0:0≤n) (hm:n≤18446744073709551615) (hn:n.toNat<256 ^ w):VC E0 35 1 [.ptr 0 0,.s (.int .u64 n),.s (.int .i64 w)] [(0,re s)] (RR (.cY []) 1 [(0,re (s.add (cP w n.toNat)))]):=by
 have:=UY s n.toNat w h.ok (by have:=h.l;omega) h1 h8 om;rw[h.num hn hw,Int.toNat_of_nonneg h0]at this;exact this
theorem NY (n:Nat) (w:Nat) (h1:1≤w) (h8:w≤8):VC E0 73 0 [.s (.int .u64 n),.s (.int .i64 w)] [] (RR (.sl 1 (bM (cP w n)) false) 0 []):=by
 refine VC.told (Iu n w h1 h8) ?_;rintro r o' c' ⟨rfl,rfl,rfl⟩;exact⟨[0],[],_,_,_,t3,rfl,rfl,rfl⟩
theorem QZ (n:Nat) (h0:0<n) (hn:n<1000000):VC E0 115 0 [.sl 0 [] true,.s (.int .i64 n)] [] (RR (.pv 0 0) 1 [(0,.arr 1 true (bM (List.replicate n 0)))]):=by
 refine en L0 Tryz.f115 ?_;refine sp ?_ ?_<;>intro h
 ·have h:(n:Int)<0:=h;omega
 ·refine wh ?_;have hw:IntKind.i64.wrap ((n:Int) - IntKind.i64.wrap (0 - ((([]:List (List TV)).length:Nat):Int)))=(n:Int):=by
   rw[show IntKind.i64.wrap (0 - ((([]:List (List TV)).length:Nat):Int))=0 from rfl,IntWalk.i64_in _ om];omega
  rw[hw];refine sp ?_ ?_<;>intro h2
  ·refine wh ?_;refine⟨by decide,?_⟩;refine wh ?_;refine⟨om,?_⟩;refine wh ?_;refine⟨⟨by simp,by simp,by simp⟩,.inr ?_⟩;refine wh ?_;refine⟨[],[some 0],?_⟩
   iterate 3 constructor
   refine⟨⟨?_,?_,?_⟩,rfl,rfl,rfl⟩
   all_goals(repeat' first|exact LF|constructor)
   all_goals first|exact Lz.of rfl |exact Lz.of (by simp[bM,Ty])|trace_state
  ·exact absurd (show(0:Int)<(n:Int) by omega) h2
theorem Kh (a b:List Int) (ha:a≠[]) (hn:a.length+b.length<1000000):VC E0 80 0 [.sl 1 [[.sl 1 (bM a) false],[.sl 1 (bM b) false]] false] [] (RR (.sl 1 (bM (a++b)) false) 0 []):=by
 have la:=uh a;have lb:=uh b;have ha0:0<a.length:=List.length_pos_iff.2 ha;refine VC.dM L0 (show E0.func 80=some Tryz.f80 by kernel_rfl) (fun _ _=>rfl) rfl rfl [999999] ?_;refine wh ?_;refine sp ?_ ?_<;>intro t0
 ·refine wh ?_;refine⟨_,⟨by decide,rfl⟩,?_⟩;refine wh ?_;rw[show IntKind.i64.wrap (0+(((bM a).length:Nat):Int))=(a.length:Int)from by rw[la,IntWalk.i64_in _ om];omega];refine sp ?_ ?_<;>intro n0
  ·have n0:(a.length:Int)<0:=n0;omega
  ·refine wh ?_;refine sp ?_ ?_<;>intro t1
   ·refine wh ?_;refine⟨_,⟨by decide,rfl⟩,?_⟩;refine wh ?_;rw[show IntKind.i64.wrap ((a.length:Int)+(((bM b).length:Nat):Int))=((a.length+b.length:Nat):Int)from by rw[lb,IntWalk.i64_in _ om];omega];refine sp ?_ ?_<;>intro n1
    ·have n1:((a.length+b.length:Nat):Int)<0:=n1;omega
    ·refine wh ?_;refine sp ?_ ?_<;>intro t2
     ·exact absurd t2 (show¬(IntKind.i64.wrap (IntKind.i64.wrap (0+1)+1)<(2:Int)) by decide)
     ·refine wh ?_;refine⟨[],[],_,_,_,_,QZ (a.length+b.length) om om,t3,cw ?_⟩;refine sp ?_ ?_<;>intro u0
      ·refine wh ?_;refine⟨_,⟨by decide,rfl⟩,?_⟩;refine wh ?_;refine⟨⟨Nat.zero_le _,by rw[la];omega,fun e=>ha (Kg e)⟩,?_⟩;refine wh ?_;refine sp ?_ ?_<;>intro u1
       ·refine wh ?_;refine⟨_,⟨by decide,rfl⟩,?_⟩;refine wh ?_;refine⟨by rw[List.take_zero,List.nil_append,la,lb];omega,?_⟩;refine wh ?_;refine sp ?_ ?_<;>intro u2
        ·exact absurd u2 (show¬(IntKind.i64.wrap (IntKind.i64.wrap (0+1)+1)<(2:Int)) by decide)
        ·refine wh ?_;refine⟨[2],[],?_⟩
         iterate 3 constructor
         refine⟨⟨?_,?_,?_⟩,rfl,rfl,rfl⟩
         all_goals(repeat' first|exact LF|constructor)
         all_goals exact Lz.of (by rw[List.take_zero,List.nil_append,Kf])
       ·exact absurd (show IntKind.i64.wrap (0+1)<(2:Int) by decide) u1
      ·exact absurd (show(0:Int)<(2:Int) by decide) u0
   ·exact absurd (show IntKind.i64.wrap (0+1)<(2:Int) by decide) t1
 ·exact absurd (show(0:Int)<(2:Int) by decide) t0
theorem GG (s:eW) (d:List Int) (k:Nat) (h:Room s k) (hd:d.length+2≤k) (h2:d.length≤65535):VC E0 39 1 [.ptr 0 0,.sl 1 (bM d) false] [(0,re s)] (RR (.cY []) 1 [(0,re (s.add (cP 2 d.length++d)))]):=by
 have hl:=uh d;have hp:=NW s (cP 2 d.length++d) h.ok (by have:=h.l;rw[List.length_append,bY];omega);rw[h.put (by rw[List.length_append,bY];omega)]at hp;refine en L0 Tryz.f39 ?_;refine sp ?_ ?_<;>intro h0
 ·have h0:(65535:Int)<(((bM d).length:Nat):Int):=h0;rw[hl]at h0;omega
 ·refine wh ?_;rw[hl,show IntKind.u64.wrap ((d.length:Nat):Int)=((d.length:Nat):Int)from IntWalk.u64_in _ om];refine⟨[],[],_,_,_,_,NY d.length 2 (by decide) (by decide),t3,cw ?_⟩;refine⟨[1],[],_,_,_,_,Kh (cP 2 d.length) d (fun e=>by have:=congrArg List.length e;rw[bY]at this;cases this) (by rw[bY];omega),t3,cw ?_⟩;refine⟨[],[some 0],_,_,_,_,hp,t3,cw ?_⟩;exact⟨[],[some 0],_,_,_,t3,rfl,rfl,rfl⟩
end Go.M
