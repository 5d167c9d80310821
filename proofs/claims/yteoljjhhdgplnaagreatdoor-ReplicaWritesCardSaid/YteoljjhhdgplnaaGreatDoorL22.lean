/-
  Part 22 of the library that the proof leans on.
-/
import Derived.Test.YteoljjhhdgplnaaGreatDoorL12
import Derived.Test.YteoljjhhdgplnaaGreatDoorL21
import Derived.Test.YteoljjhhdgplnaaGreatDoorL17
namespace Go.M
open Go Go.Proofs
set_option maxRecDepth 100000
set_option maxHeartbeats 4000000
theorem yA (k:Int):VC E0 185 0 [.s (.int .i64 k)] [] (RR (.s (.bool (ye k))) 0 []):=by
 refine en L0 Tryz.f185 ?_
 repeat'(first|((first|(refine⟨fun h=>?_,fun h=>?_⟩)|(refine aZ (fun h=>?_) (fun h=>?_))|(refine aY (fun h=>?_) (fun h=>?_)))<;>(conv=>whnf)))
 all_goals(refine⟨[],[],[],_,_,⟨?_,.nil,rfl⟩,rfl,rfl,rfl⟩)
 all_goals(refine .s (Lz.of (aL ?_)))
 all_goals(unfold ye;simp_all)
theorem SX (u:c7):VC E0 184 0 [.agg (cS u),.s (.int .i64 12)] [] (RR (.s (.int .i64 (px u))) 0 []):=by
 refine en L0 Tryz.f184 ?_;refine⟨[],[],_,_,_,_,yA u.kind,t3,?_⟩;rintro r o' c' ⟨rfl,rfl,rfl⟩;have eN:=True.intro;clear eN;cases hk:ye u.kind
 ·refine wh ?_;refine⟨[],[],_,_,_,tx ?_,rfl,rfl,rfl⟩;exact Lz.int (by simp[px,hk])
 ·refine wh ?_;refine sp ?_ ?_<;>intro hl
  ·have hl:2048<u.data.length:=by simp[bA]at hl;omega
   refine wh ?_;refine⟨[],[],_,_,_,tx ?_,rfl,rfl,rfl⟩;exact Lz.int (by simp[px,hk,hl])
  ·have hl:¬2048<u.data.length:=by simp[bA]at hl;omega
   refine wh ?_;refine⟨[1],[],_,_,_,_,O5 u,t3,cw ?_⟩;refine⟨[],[],_,_,_,tx ?_,rfl,rfl,rfl⟩;exact Lz.int (by simp[px,hk,hl])
theorem vW (u:c7):VC E0 145 0 [.agg (cS u)] [] (RR (.s (.int .i64 (px u))) 0 []):=by
 refine en L0 Tryz.f145 ?_;refine⟨[],[],_,_,_,_,SX u,t3,cw ?_⟩;exact⟨[],[],_,_,_,t3,rfl,rfl,rfl⟩
structure LD (u:c7):Prop where
 seq:0≤u.seq∧u.seq≤18446744073709551615
 num:0≤u.num∧u.num≤18446744073709551615
 dx:0≤u.dx∧u.dx≤18446744073709551615
 key:0≤u.key∧u.key≤4294967295
@[reducible] def SY (q:Int×Int×Bool):TV:=.dg [.s (.int .i64 q.1),.s (.int .u64 q.2.1),.s (.bool q.2.2)]
theorem aae {n:Int} (h:0≤n∧n<18446744073709551615):IntKind.u64.wrap (n+1)=n+1:=IntWalk.u64_in _ om
theorem Ej (u:c7) (dx:Int) (room:Bool) (hv:0≤dx∧dx≤18446744073709551615):VC E0 146 0 [.agg (cS u),.s (.int .u64 dx),.s (.bool room)] [] (RR (SY (w6 u dx room)) 0 []):=by
 refine en L0 Tryz.f146 ?_;refine⟨[],[],_,_,_,_,yA u.kind,t3,?_⟩;rintro r o' c' ⟨rfl,rfl,rfl⟩;have eN:=True.intro;clear eN;cases hk:ye u.kind
 ·refine wh ?_;refine⟨[],[],?_⟩
  iterate 3 constructor
  refine⟨⟨?_,?_,?_⟩,rfl,rfl,rfl⟩
  all_goals(repeat' first|exact LF|constructor)
  all_goals first|exact Lz.int (by simp[w6,hk])|exact Lz.of (aL (by simp[w6,hk]))
 ·cases room
  all_goals
   refine wh ?_
   repeat'(first|((first|(refine⟨fun h=>?_,fun h=>?_⟩)|(refine aZ (fun h=>?_) (fun h=>?_))|(refine aY (fun h=>?_) (fun h=>?_)))<;>(conv=>whnf)))
   all_goals(refine⟨[],[],[],_,_,⟨?_,.nil,rfl⟩,rfl,rfl,rfl⟩)
   all_goals(refine .dg (.cons (.s (Lz.int ?_)) (.cons (.s (Lz.int ?_)) (.cons (.s (Lz.of (aL ?_))) .nil))))
   all_goals(unfold w6;simp_all;try first|exact aae om|rfl |omega)
@[reducible] def jI (v:Vs):List TV:=[.s (.int .u64 v.dx),.s (.int .u64 v.seq),.sl 1 (bA v.data) false]
theorem nw (ns:List Int) (hl:ns.length<1000000):VC E0 117 0 [.sl 1 (bA ns) false] [] (RR (.sl 1 (bA ns) false) 0 []):=by
 refine en L0 Tryz.f117 ?_;refine⟨fun h0=>?_,?_⟩
 ·refine wh ?_;refine⟨[],[],_,_,_,tx ?_,rfl,rfl,rfl⟩;exact Lz.of h0.symm
 ·refine wh ?_;refine⟨by simp[bA];omega,?_⟩;refine wh ?_;refine⟨[1],[],?_⟩
  iterate 3 constructor
  refine⟨⟨?_,?_,?_⟩,rfl,rfl,rfl⟩
  all_goals(repeat' first|exact LF|constructor)
  all_goals exact Lz.of rfl
theorem F6 (u:c7) (dx:Int) (hl:u.data.length<1000000):VC E0 148 0 [.agg (cS u),.s (.int .u64 dx)] [] (RR (.agg (jI ⟨dx,u.seq,u.data⟩)) 0 []):=by
 refine en L0 Tryz.f148 ?_;refine⟨[],[],_,_,_,_,nw u.data hl,t3,cw ?_⟩;exact⟨[],[],_,_,_,t3,rfl,rfl,rfl⟩
@[reducible] def O6 (vs:List Vs):TO:=.cells [.own (.arr 3 true (vs.map jI))]
@[reducible] def Cq (vs:List Vs):Ob:=[(0,O6 vs)]
structure O7 (v:Vs):Prop where
 dx:0≤v.dx∧v.dx≤18446744073709551615
 seq:0≤v.seq∧v.seq≤18446744073709551615
 len:v.data.length≤2048
theorem O8:VC E0 186 0 [] [] (RR (.ptr 0 0) 1 (Cq [])):=by
 refine en L0 Tryz.f186 ?_;exact⟨[],[some 0],_,_,_,t3,rfl,rfl,rfl⟩
theorem Ek (v:Vs) (hl:v.data.length<1000000):VC E0 164 0 [.agg (jI v)] [] (RR (.agg (jI v)) 0 []):=by
 refine en L0 Tryz.f164 ?_;refine⟨[],[],_,_,_,_,nw v.data hl,t3,cw ?_⟩;exact⟨[],[],_,_,_,t3,rfl,rfl,rfl⟩
theorem Ga (vs:List Vs):VC E0 114 1 [.ptr 0 0] (Cq vs) (RR (.s (.int .i64 vs.length)) 1 (Cq vs)):=by
 refine en L0 Tryz.f114 ?_;refine⟨[],[some 0],?_⟩
 iterate 3 constructor
 refine⟨⟨?_,?_,?_⟩,rfl,rfl,rfl⟩
 all_goals(repeat' first|exact LF|constructor)
 all_goals exact Lz.int (by simp)
theorem LG {vs:List Vs} {j:Nat} (h:j<vs.length):Nq vs j=vs[j]:=by
 unfold Nq;rw[if_pos om];simp[List.getD,h]
theorem O9 {vs:List Vs} {i:Int} (h:i<0∨vs.length≤i):Nq vs i=fV:=by
 unfold Nq;split
 ·rw[List.getD,List.getElem?_eq_none om];rfl
 ·rfl
theorem Pa (vs:List Vs) (i:Int) (h:i<0∨vs.length≤i):VC E0 113 1 [.ptr 0 0,.s (.int .i64 i)] (Cq vs) (RR (.agg (jI fV)) 1 (Cq vs)):=by
 refine en L0 Tryz.f113 ?_;refine sp ?_ ?_<;>intro h0
 ·refine wh ?_;exact⟨[],[some 0],_,_,_,t3,rfl,rfl,rfl⟩
 ·have h0:¬i<0:=h0;refine wh ?_;refine sp ?_ ?_<;>intro h1
  ·refine wh ?_;exact⟨[],[some 0],_,_,_,t3,rfl,rfl,rfl⟩
  ·have h1:¬i≥(((vs.map jI).length:Nat):Int):=h1;rw[List.length_map]at h1;omega
theorem SZ (vs:List Vs) (j:Nat) (h:j<vs.length) (hl:∀v∈vs,O7 v):VC E0 113 1 [.ptr 0 0,.s (.int .i64 j)] (Cq vs) (RR (.agg (jI vs[j])) 1 (Cq vs)):=by
 have hv:=hl _ (List.getElem_mem h);refine en L0 Tryz.f113 ?_;refine sp ?_ ?_<;>intro h0
 ·have h0:(j:Int)<0:=h0;omega
 ·refine wh ?_;refine sp ?_ ?_<;>intro h1
  ·have h1:(j:Int)≥(((vs.map jI).length:Nat):Int):=h1;rw[List.length_map]at h1;omega
  ·refine wh ?_;refine⟨by simp;omega,?_⟩;refine wh ?_;refine⟨jI vs[j],by simp[h],?_⟩;refine wh ?_;refine⟨[1],[],_,_,_,_,Ek vs[j] (by have:=hv.len;omega),t3,cw ?_⟩;exact⟨[],[some 0],_,_,_,t3,rfl,rfl,rfl⟩
theorem S5 (vs:List Vs) (i:Int) (hl:∀v∈vs,O7 v):VC E0 113 1 [.ptr 0 0,.s (.int .i64 i)] (Cq vs) (RR (.agg (jI (Nq vs i))) 1 (Cq vs)):=by
 by_cases h:0≤i∧i<vs.length
 ·obtain⟨j,rfl⟩:∃j:Nat,i=j:=⟨i.toNat,om⟩;rw[LG (j:=j) om];exact SZ vs j om hl
 ·rw[O9 om];exact Pa vs i om
theorem LH (vs:List Vs) (hl:∀v∈vs,O7 v) (hn:vs.length<1000000):VC E0 79 1 [.ptr 0 0] (Cq vs) (RR (.agg (jI (gX vs))) 1 (Cq vs)):=by
 refine en L0 Tryz.f79 ?_;refine⟨[],[some 0],_,_,_,_,Ga vs,t3,cw ?_⟩;rw[show IntKind.i64.wrap ((vs.length:Int) - 1)=(vs.length:Int) - 1 from IntWalk.i64_in _ om];refine⟨[],[some 0],_,_,_,_,S5 vs ((vs.length:Int) - 1) hl,t3,cw ?_⟩;exact⟨[],[some 0],_,_,_,t3,rfl,rfl,rfl⟩
theorem vX (vs:List Vs):vs=[]∨∃ws w,vs=ws++[w]:=by
 rcases List.eq_nil_or_concat vs with h|⟨ws,w,h⟩
 ·exact .inl h
 ·exact .inr ⟨ws,w,by simpa using h⟩
theorem gj (ws:List Vs) (w:Vs):gX (ws++[w])=w:=by
 show Nq (ws++[w]) _=w;rw[show(((ws++[w]).length:Nat):Int) - 1=((ws.length:Nat):Int)from by simp,LG (by simp)];simp
theorem Gb (vs:List Vs) (v:Vs) (hv:0≤v.dx∧v.dx≤18446744073709551615) (hn:vs.length<100000):VC E0 187 1 [.ptr 0 0,.agg (jI v)] (Cq vs) (RR (.s (.int .i64 (py vs v))) 1 (Cq (ow vs v))):=by
 refine en L0 Tryz.f187 ?_;refine sp ?_ ?_<;>intro h0
 ·have h0:2048<v.data.length:=by simp[bA]at h0;omega
  rw[show ow vs v=vs from by simp[ow,py,h0]];refine wh ?_;refine⟨[],[some 0],_,_,_,tx ?_,rfl,rfl,rfl⟩;exact Lz.int (by simp[py,h0])
 ·have h0:¬2048<v.data.length:=by simp[bA]at h0;omega
  refine wh ?_;by_cases h1:v.dx=0∨v.seq=0
  ·rw[show ow vs v=vs from by simp[ow,py,h0,h1]]
   repeat'(first|((first|(refine⟨fun h=>?_,fun h=>?_⟩)|(refine aZ (fun h=>?_) (fun h=>?_))|(refine aY (fun h=>?_) (fun h=>?_)))<;>((conv=>whnf)<;>repeat(with_reducible refine D1 ?_)<;>conv=>whnf)))
   all_goals first|(exfalso;omega)|skip
   all_goals
    refine⟨[],[some 0],_,_,_,tx ?_,rfl,rfl,rfl⟩;exact Lz.int (by simp[py,h0,h1])
  ·obtain⟨h1,h2⟩:=not_or.1 h1;refine sp ?_ ?_<;>intro h3
   ·exact absurd h3 h1
   ·refine wh ?_;refine sp ?_ ?_<;>intro h4
    ·exact absurd h4 h2
    ·refine wh ?_;obtain rfl |⟨ws,w,rfl⟩:=vX vs
     ·refine sp ?_ ?_<;>intro h5
      ·exact absurd h5 (by simp)
      ·rw[show ow [] v=[]++[v]from by simp[ow,py,h0,h1,h2]];refine wh ?_;refine⟨[],[],_,_,_,_,Ek v om,t3,cw ?_⟩;refine⟨by simp,?_⟩;refine wh ?_;refine⟨[],[some 0],?_⟩
       iterate 3 constructor
       refine⟨⟨?_,?_,?_⟩,rfl,rfl,rfl⟩
       all_goals(repeat' first|exact LF|constructor)
       all_goals exact Lz.int (by simp[py,h0,h1,h2])
     ·refine sp ?_ ?_<;>intro h5
      ·have hn:ws.length+1<100000:=by simpa using hn
       have hw:IntKind.i64.wrap ((((ws++[w]).map jI).length:Int) - 1)=((ws.length:Nat):Int):=by rw[IntWalk.i64_in _ (by simp;omega)];simp
       have hs:IntKind.u64.wrap (v.dx - 1)=v.dx - 1:=IntWalk.u64_in _ om;have hx:((ws++[w]).map jI)[(IntKind.i64.wrap ((((ws++[w]).map jI).length:Int) - 1)).toNat]? =some (jI w):=by rw[hw];simp
       refine wh ?_;refine⟨by rw[hw];simp;omega,?_⟩;refine wh ?_;refine⟨jI w,hx,?_⟩;refine wh ?_;refine sp ?_ ?_<;>intro h6
       ·have h6:v.dx - 1≠w.dx:=by rw[←hs];exact h6
        rw[show ow (ws++[w]) v=ws++[w]from by simp[ow,py,h0,h1,h2,gj,h6]];refine wh ?_;refine⟨[],[some 0],_,_,_,tx ?_,rfl,rfl,rfl⟩;exact Lz.int (by simp[py,h0,h1,h2,gj,h6])
       ·have h6:v.dx - 1=w.dx:=by rw[←hs];exact Decidable.not_not.1 h6
        refine wh ?_;refine⟨by rw[hw];simp;omega,?_⟩;refine wh ?_;refine⟨jI w,hx,?_⟩;refine wh ?_;refine sp ?_ ?_<;>intro h7
        ·have h7:v.seq≤w.seq:=h7;rw[show ow (ws++[w]) v=ws++[w]from by simp[ow,py,h0,h1,h2,gj,h7]];refine wh ?_;refine⟨[],[some 0],_,_,_,tx ?_,rfl,rfl,rfl⟩;exact Lz.int (by simp[py,h0,h1,h2,gj,h7])
        ·have h7:¬v.seq≤w.seq:=h7;rw[show ow (ws++[w]) v=ws++[w]++[v]from by simp[ow,py,h0,h1,h2,gj,h6,h7]];refine wh ?_;refine⟨[],[],_,_,_,_,Ek v om,t3,cw ?_⟩;refine⟨by simp;omega,?_⟩;refine wh ?_;refine⟨[],[some 0],?_⟩
         iterate 3 constructor
         refine⟨⟨?_,?_,?_⟩,rfl,rfl,rfl⟩
         all_goals(repeat' first|exact LF|constructor)
         ·exact Lz.int (by simp[py,h0,h1,h2,gj,h6,h7])
         ·exact Lz.of (by simp)
      ·exact absurd (show(0:Int)<((((ws++[w]).map jI).length:Nat):Int) by simp) h5
theorem S6 (i j:Nat) (h:i<j) (hj:j<1000000):IntKind.i64.wrap (Int.fdiv (IntKind.u64.wrap (IntKind.i64.wrap ((i:Int)+j))) (2 ^ min (Int.toNat 1) IntKind.u64.bits))=(((i+j) / 2:Nat):Int):=by
 rw[IntWalk.i64_in ((i:Int)+j) om,IntWalk.u64_in _ om];rw[show(2:Int) ^ min (Int.toNat 1) IntKind.u64.bits=2 from by decide];rw[Int.fdiv_eq_ediv_of_nonneg _ (by decide),IntWalk.i64_in _ om];omega
theorem LI {p:Nat→Bool} {i j:Nat} (h:i<j) (hp:p ((i+j) / 2)=true):l4 p i j=l4 p i ((i+j) / 2):=by
 rw[l4,dif_pos h,if_pos hp]
theorem LJ {p:Nat→Bool} {i j:Nat} (h:i<j) (hp:p ((i+j) / 2)=false):l4 p i j=l4 p ((i+j) / 2+1) j:=by
 rw[l4,dif_pos h,if_neg (by rw[hp];exact Bool.false_ne_true)]
theorem El {p:Nat→Bool} {i j:Nat} (h:¬i<j):l4 p i j=i:=by
 rw[l4,dif_neg h]
@[reducible] def S7 (vs:List Vs) (d:Int):Ob:=[(0,O6 vs),(1,.cells [.ptr 0 0]),(2,.cells [.s (.int .u64 d)])]
theorem H7 (g:Nat) (vs:List Vs) (d:Int) (p:Nat→Bool) (n:Nat) (hn:n<1000000)
 (hg:∀k<n,VC E0 g 3 [.s (.int .i64 k),.ptr 1 0,.ptr 2 0] (S7 vs d) (RR (.s (.bool (p k))) 3 (S7 vs d))):
 VC E0 207 3 [.s (.int .i64 n),.cJ g [] [.ptr 1 0,.ptr 2 0]] (S7 vs d) (RR (.s (.int .i64 (l4 p 0 n))) 3 (S7 vs d)):=by
 refine en L0 Tryz.f207 ?_;refine⟨fun k f o c=>∃i j:Nat,i≤j∧j≤n∧l4 p i j=l4 p 0 n∧k=j - i∧c=3∧f=[(1,.cJ g [] [.ptr 1 0,.ptr 2 0]),(5,.s (.int .i64 i)),(6,.s (.int .i64 j))]∧o=S7 vs d,⟨n,?_⟩,?_⟩
 ·exact⟨[],[some 0,some 1,some 2],_,_,_,t3,⟨0,n,Nat.zero_le _,Nat.le_refl _,rfl,rfl,rfl,rfl,rfl⟩⟩
 ·rintro k f1 o1 c1 ⟨i,j,NG,hj,hs,rfl,rfl,rfl,rfl⟩;refine wh ?_;refine sp ?_ ?_<;>intro h
  ·have h:i<j:=by exact Int.ofNat_lt.1 h
   have hm:=S6 i j h om;have hc:=hg ((i+j) / 2) om;refine wh ?_;rw[hm];cases hp:p ((i+j) / 2)
   ·rw[hp]at hc;refine⟨[],[some 0,some 1,some 2],_,_,_,_,hc,t3,cw ?_⟩;rw[IntWalk.i64_in _ om];refine⟨j - ((i+j) / 2+1),?_,om⟩;exact⟨[],[some 0,some 1,some 2],_,_,_,t3,⟨(i+j) / 2+1,j,om,hj,(LJ h hp).symm.trans hs,rfl,rfl,rfl,rfl⟩⟩
   ·rw[hp]at hc;refine⟨[],[some 0,some 1,some 2],_,_,_,_,hc,t3,cw ?_⟩;refine⟨(i+j) / 2 - i,?_,om⟩;exact⟨[],[some 0,some 1,some 2],_,_,_,t3,⟨i,(i+j) / 2,om,by omega,(LI h hp).symm.trans hs,rfl,rfl,rfl,rfl⟩⟩
  ·have h:¬i<j:=fun q=>h (Int.ofNat_lt.2 q);obtain rfl:i=j:=by omega
   rw[El h]at hs;refine wh ?_;refine⟨[],[some 0,some 1,some 2],_,_,_,tx ?_,rfl,rfl,rfl⟩;exact Lz.int (by rw[←hs])
theorem Pb {vs:List Vs} {k:Nat} (hk:k<vs.length):vs.getD k fV=vs[k]:=by simp[List.getD,hk]
theorem WJ (vs:List Vs) (k:Nat) (hk:k<vs.length) (d:Int):VC E0 208 3 [.s (.int .i64 k),.ptr 1 0,.ptr 2 0] (S7 vs d) (RR (.s (.bool (decide (d<(vs.getD k fV).seq)))) 3 (S7 vs d)):=by
 rw[Pb hk];refine en L0 Tryz.f208 ?_;refine⟨by simp;omega,?_⟩;refine wh ?_;refine⟨jI vs[k],by simp[hk],?_⟩;refine wh ?_;refine sp ?_ ?_<;>intro h
 all_goals
  refine wh ?_;refine⟨[],[some 0,some 1,some 2],_,_,_,tx ?_,rfl,rfl,rfl⟩;exact Lz.of (aL (by simp_all))
theorem Ah (p:Nat→Bool) (i j:Nat):i≤j→l4 p i j≤j:=by
 induction i,j using l4.induct (p:=p)with
 |case1 i j h hp ih=>rw[LI h hp];intro q;have:=ih om;omega
 |case2 i j h hp ih=>rw[LJ h (by simpa using hp)];intro q;have:=ih om;omega
 |case3 i j h=>rw[El h];exact id
theorem H8 (vs:List Vs) (d:Int) (hn:vs.length<1000000):VC E0 166 1 [.ptr 0 0,.s (.int .u64 d)] (Cq vs) (RR (.s (.int .i64 (l5 vs d))) 1 (Cq vs)):=by
 have hle:=Ah (fun k=>decide (d<(vs.getD k fV).seq)) 0 vs.length (Nat.zero_le _);refine en L0 Tryz.f166 ?_;refine⟨[],[some 0],_,_,_,_,Ga vs,t3,cw ?_⟩;refine⟨[],[some 0,some 1,some 2],_,_,_,_,H7 _ vs d _ vs.length hn (fun k hk=>WJ vs k hk d),t3,cw ?_⟩;refine⟨[],[some 0],_,_,_,tx ?_,rfl,rfl,rfl⟩;exact Lz.int (by rw[IntWalk.i64_in _ om];rfl)
theorem LK (vs:List Vs) (d:Int) (hn:vs.length<1000000):VC E0 120 1 [.ptr 0 0,.s (.int .u64 d)] (Cq vs) (RR (.s (.int .i64 (fo vs d))) 1 (Cq (vs.drop (fo vs d)))):=by
 have hle:=Ah (fun k=>decide (d<(vs.getD k fV).seq)) 0 vs.length (Nat.zero_le _);refine en L0 Tryz.f120 ?_;refine⟨[],[some 0],_,_,_,_,H8 vs d hn,t3,cw ?_⟩;have hr:(if 0>l5 vs d then 0 else l5 vs d)=((fo vs d:Nat):Int):=by unfold fo;split<;>omega
 have bj:fo vs d≤vs.length:=by unfold fo l5;omega
 rw[hr];generalize fo vs d=m at bj;refine sp ?_ ?_<;>intro h
 ·have h:0<m:=by exact Int.ofNat_lt.1 h
  refine wh ?_;refine⟨⟨om,by simp;omega,rfl,by simp⟩,?_⟩;refine wh ?_;refine⟨by simp;omega,?_⟩;refine wh ?_;refine⟨[],[some 0],_,_,_,tx ?_,rfl,rfl,rfl⟩;exact Lz.of (by rw[List.map_drop,Int.toNat_natCast,Int.toNat_natCast,List.take_length])
 ·have h:¬0<m:=fun q=>h (Int.ofNat_lt.2 q);obtain rfl:m=0:=by omega
  refine wh ?_;exact⟨[],[some 0],_,_,_,t3,rfl,rfl,rfl⟩
@[reducible] def Cr (r:fp):List TV:=[.s (.int .i64 r.al),.s (.int .u64 r.num),.s (.int .u64 r.seq),.s (.int .i64 r.code),.s (.int .u64 r.dx)]
@[reducible] def tB (t:eS):TO:=.cells [.s (.int .i64 t.r1.al),.s (.int .u64 t.r1.num),.s (.int .u64 t.r1.seq),.s (.int .i64 t.r1.code),.s (.int .u64 t.r1.dx),.s (.int .i64 t.r2.al),.s (.int .u64 t.r2.num),.s (.int .u64 t.r2.seq),.s (.int .i64 t.r2.code),.s (.int .u64 t.r2.dx),.s (.int .i64 t.r3.al),.s (.int .u64 t.r3.num),.s (.int .u64 t.r3.seq),.s (.int .i64 t.r3.code),.s (.int .u64 t.r3.dx),.s (.int .i64 t.r4.al),.s (.int .u64 t.r4.num),.s (.int .u64 t.r4.seq),.s (.int .i64 t.r4.code),.s (.int .u64 t.r4.dx),.s (.int .i64 t.r5.al),.s (.int .u64 t.r5.num),.s (.int .u64 t.r5.seq),.s (.int .i64 t.r5.code),.s (.int .u64 t.r5.dx),.s (.int .i64 t.r6.al),.s (.int .u64 t.r6.num),.s (.int .u64 t.r6.seq),.s (.int .i64 t.r6.code),.s (.int .u64 t.r6.dx)]
@[reducible] def ny (t:eS):Ob:=[(0,tB t)]
theorem Pc:VC E0 88 0 [] [] (RR (.ptr 0 0) 1 (ny oe)):=by
 refine en L0 Tryz.f88 ?_;exact⟨[],[some 0],_,_,_,t3,rfl,rfl,rfl⟩
def H9 (c:Int):Bool:=decide (1≤c∧c≤6)
theorem qJ (c:Int):VC E0 144 0 [.s (.int .i64 c)] [] (RR (.s (.bool (H9 c))) 0 []):=by
 refine en L0 Tryz.f144 ?_
 repeat'(first|((first|(refine⟨fun h=>?_,fun h=>?_⟩)|(refine aZ (fun h=>?_) (fun h=>?_))|(refine aY (fun h=>?_) (fun h=>?_)))<;>(conv=>whnf)))
 all_goals
  refine⟨[],[],_,_,_,tx ?_,rfl,rfl,rfl⟩;exact Lz.of (aL (by unfold H9;simp at*;omega))
theorem WK (r:fp):VC E0 188 0 [.agg (Cr r)] [] (RR (.s (.bool (yf r))) 0 []):=by
 refine en L0 Tryz.f188 ?_;refine⟨[],[],_,_,_,_,qJ r.al,t3,?_⟩;rintro r o' c' ⟨rfl,rfl,rfl⟩;have eN:=True.intro;clear eN;cases hc:H9 r.al
 ·refine wh ?_;refine⟨[],[],_,_,_,tx ?_,rfl,rfl,rfl⟩;exact Lz.of (aL (by unfold H9 at hc;unfold yf;simp at hc ⊢;omega))
 ·have hc:1≤r.al∧r.al≤6:=by unfold H9 at hc;simpa using hc
  refine wh ?_
  repeat'(first|((first|(refine⟨fun h=>?_,fun h=>?_⟩)|(refine aZ (fun h=>?_) (fun h=>?_))|(refine aY (fun h=>?_) (fun h=>?_)))<;>(conv=>whnf)))
  all_goals
   refine⟨[],[],_,_,_,tx ?_,rfl,rfl,rfl⟩;exact Lz.of (aL (by unfold yf;simp at*;omega))
theorem Ai {c:Int} (h:1≤c∧c≤6):c=1∨c=2∨c=3∨c=4∨c=5∨c=6:=by omega
theorem Aj (t:eS) (c n:Int):VC E0 100 1 [.ptr 0 0,.s (.int .i64 c),.s (.int .u64 n)] (ny t) (RR (.s (.int .i64 (ct t c n))) 1 (ny t)):=by
 by_cases hc:1≤c∧c≤6
 ·have hk:=qJ c;rw[show H9 c=true from by unfold H9;simpa using hc]at hk;rcases Ai hc with rfl |rfl |rfl |rfl |rfl |rfl
  ·refine en L0 Tryz.f100 ?_;refine⟨[],[],_,_,_,_,hk,t3,cw ?_⟩;refine sp ?_ ?_<;>intro h0
   ·refine wh ?_;refine⟨[],[some 0],_,_,_,tx ?_,rfl,rfl,rfl⟩;exact Lz.int (by unfold ct;rw[if_pos (.inr h0)])
   ·refine wh ?_;refine⟨show(0≤IntKind.i64.wrap (1 - 1))∧IntKind.i64.wrap (1 - 1)<(6:Int) by decide,?_⟩;refine wh ?_
    repeat'(first|((first|(refine⟨fun h=>?_,fun h=>?_⟩)|(refine aZ (fun h=>?_) (fun h=>?_))|(refine aY (fun h=>?_) (fun h=>?_)))<;>(conv=>whnf)))
    all_goals
     refine⟨[],[some 0],_,_,_,tx ?_,rfl,rfl,rfl⟩;exact Lz.int (by unfold ct eS.row;simp at*;omega)
  ·refine en L0 Tryz.f100 ?_;refine⟨[],[],_,_,_,_,hk,t3,cw ?_⟩;refine sp ?_ ?_<;>intro h0
   ·refine wh ?_;refine⟨[],[some 0],_,_,_,tx ?_,rfl,rfl,rfl⟩;exact Lz.int (by unfold ct;rw[if_pos (.inr h0)])
   ·refine wh ?_;refine⟨show(0≤IntKind.i64.wrap (2 - 1))∧IntKind.i64.wrap (2 - 1)<(6:Int) by decide,?_⟩;refine wh ?_
    repeat'(first|((first|(refine⟨fun h=>?_,fun h=>?_⟩)|(refine aZ (fun h=>?_) (fun h=>?_))|(refine aY (fun h=>?_) (fun h=>?_)))<;>(conv=>whnf)))
    all_goals
     refine⟨[],[some 0],_,_,_,tx ?_,rfl,rfl,rfl⟩;exact Lz.int (by unfold ct eS.row;simp at*;omega)
  ·refine en L0 Tryz.f100 ?_;refine⟨[],[],_,_,_,_,hk,t3,cw ?_⟩;refine sp ?_ ?_<;>intro h0
   ·refine wh ?_;refine⟨[],[some 0],_,_,_,tx ?_,rfl,rfl,rfl⟩;exact Lz.int (by unfold ct;rw[if_pos (.inr h0)])
   ·refine wh ?_;refine⟨show(0≤IntKind.i64.wrap (3 - 1))∧IntKind.i64.wrap (3 - 1)<(6:Int) by decide,?_⟩;refine wh ?_
    repeat'(first|((first|(refine⟨fun h=>?_,fun h=>?_⟩)|(refine aZ (fun h=>?_) (fun h=>?_))|(refine aY (fun h=>?_) (fun h=>?_)))<;>(conv=>whnf)))
    all_goals
     refine⟨[],[some 0],_,_,_,tx ?_,rfl,rfl,rfl⟩;exact Lz.int (by unfold ct eS.row;simp at*;omega)
  ·refine en L0 Tryz.f100 ?_;refine⟨[],[],_,_,_,_,hk,t3,cw ?_⟩;refine sp ?_ ?_<;>intro h0
   ·refine wh ?_;refine⟨[],[some 0],_,_,_,tx ?_,rfl,rfl,rfl⟩;exact Lz.int (by unfold ct;rw[if_pos (.inr h0)])
   ·refine wh ?_;refine⟨show(0≤IntKind.i64.wrap (4 - 1))∧IntKind.i64.wrap (4 - 1)<(6:Int) by decide,?_⟩;refine wh ?_
    repeat'(first|((first|(refine⟨fun h=>?_,fun h=>?_⟩)|(refine aZ (fun h=>?_) (fun h=>?_))|(refine aY (fun h=>?_) (fun h=>?_)))<;>(conv=>whnf)))
    all_goals
     refine⟨[],[some 0],_,_,_,tx ?_,rfl,rfl,rfl⟩;exact Lz.int (by unfold ct eS.row;simp at*;omega)
  ·refine en L0 Tryz.f100 ?_;refine⟨[],[],_,_,_,_,hk,t3,cw ?_⟩;refine sp ?_ ?_<;>intro h0
   ·refine wh ?_;refine⟨[],[some 0],_,_,_,tx ?_,rfl,rfl,rfl⟩;exact Lz.int (by unfold ct;rw[if_pos (.inr h0)])
   ·refine wh ?_;refine⟨show(0≤IntKind.i64.wrap (5 - 1))∧IntKind.i64.wrap (5 - 1)<(6:Int) by decide,?_⟩;refine wh ?_
    repeat'(first|((first|(refine⟨fun h=>?_,fun h=>?_⟩)|(refine aZ (fun h=>?_) (fun h=>?_))|(refine aY (fun h=>?_) (fun h=>?_)))<;>(conv=>whnf)))
    all_goals
     refine⟨[],[some 0],_,_,_,tx ?_,rfl,rfl,rfl⟩;exact Lz.int (by unfold ct eS.row;simp at*;omega)
  ·refine en L0 Tryz.f100 ?_;refine⟨[],[],_,_,_,_,hk,t3,cw ?_⟩;refine sp ?_ ?_<;>intro h0
   ·refine wh ?_;refine⟨[],[some 0],_,_,_,tx ?_,rfl,rfl,rfl⟩;exact Lz.int (by unfold ct;rw[if_pos (.inr h0)])
   ·refine wh ?_;refine⟨show(0≤IntKind.i64.wrap (6 - 1))∧IntKind.i64.wrap (6 - 1)<(6:Int) by decide,?_⟩;refine wh ?_
    repeat'(first|((first|(refine⟨fun h=>?_,fun h=>?_⟩)|(refine aZ (fun h=>?_) (fun h=>?_))|(refine aY (fun h=>?_) (fun h=>?_)))<;>(conv=>whnf)))
    all_goals
     refine⟨[],[some 0],_,_,_,tx ?_,rfl,rfl,rfl⟩;exact Lz.int (by unfold ct eS.row;simp at*;omega)
 ·have hk:=qJ c;rw[show H9 c=false from by unfold H9;simpa using hc]at hk;refine en L0 Tryz.f100 ?_;refine⟨[],[],_,_,_,_,hk,t3,cw ?_⟩;refine⟨[],[some 0],_,_,_,tx ?_,rfl,rfl,rfl⟩;exact Lz.int (by unfold ct;rw[if_pos (.inl hc)])
@[reducible] def Pd (q:fp×Bool):TV:=.dg [.agg (Cr q.1),.s (.bool q.2)]
theorem Gc (t:eS) (c:Int):VC E0 101 1 [.ptr 0 0,.s (.int .i64 c)] (ny t) (RR (Pd (fW t c)) 1 (ny t)):=by
 by_cases hc:1≤c∧c≤6
 ·have hk:=qJ c;rw[show H9 c=true from by unfold H9;simpa using hc]at hk;rcases Ai hc with rfl |rfl |rfl |rfl |rfl |rfl
  ·refine en L0 Tryz.f101 ?_;refine⟨[],[],_,_,_,_,hk,t3,cw ?_⟩;refine⟨by decide,?_⟩;refine wh ?_;refine sp ?_ ?_<;>intro h0
   ·rw[show fW t 1=(eO,false)from if_pos (.inr h0)];refine wh ?_;exact⟨[],[some 0],_,_,_,t3,rfl,rfl,rfl⟩
   ·rw[show fW t 1=(t.row 1,true)from if_neg (not_or.2 ⟨not_not_intro hc,h0⟩)];refine wh ?_;refine⟨show(0≤IntKind.i64.wrap (1 - 1))∧IntKind.i64.wrap (1 - 1)<(6:Int) by decide,?_⟩;refine wh ?_;exact⟨[],[some 0],_,_,_,t3,rfl,rfl,rfl⟩
  ·refine en L0 Tryz.f101 ?_;refine⟨[],[],_,_,_,_,hk,t3,cw ?_⟩;refine⟨by decide,?_⟩;refine wh ?_;refine sp ?_ ?_<;>intro h0
   ·rw[show fW t 2=(eO,false)from if_pos (.inr h0)];refine wh ?_;exact⟨[],[some 0],_,_,_,t3,rfl,rfl,rfl⟩
   ·rw[show fW t 2=(t.row 2,true)from if_neg (not_or.2 ⟨not_not_intro hc,h0⟩)];refine wh ?_;refine⟨show(0≤IntKind.i64.wrap (2 - 1))∧IntKind.i64.wrap (2 - 1)<(6:Int) by decide,?_⟩;refine wh ?_;exact⟨[],[some 0],_,_,_,t3,rfl,rfl,rfl⟩
  ·refine en L0 Tryz.f101 ?_;refine⟨[],[],_,_,_,_,hk,t3,cw ?_⟩;refine⟨by decide,?_⟩;refine wh ?_;refine sp ?_ ?_<;>intro h0
   ·rw[show fW t 3=(eO,false)from if_pos (.inr h0)];refine wh ?_;exact⟨[],[some 0],_,_,_,t3,rfl,rfl,rfl⟩
   ·rw[show fW t 3=(t.row 3,true)from if_neg (not_or.2 ⟨not_not_intro hc,h0⟩)];refine wh ?_;refine⟨show(0≤IntKind.i64.wrap (3 - 1))∧IntKind.i64.wrap (3 - 1)<(6:Int) by decide,?_⟩;refine wh ?_;exact⟨[],[some 0],_,_,_,t3,rfl,rfl,rfl⟩
  ·refine en L0 Tryz.f101 ?_;refine⟨[],[],_,_,_,_,hk,t3,cw ?_⟩;refine⟨by decide,?_⟩;refine wh ?_;refine sp ?_ ?_<;>intro h0
   ·rw[show fW t 4=(eO,false)from if_pos (.inr h0)];refine wh ?_;exact⟨[],[some 0],_,_,_,t3,rfl,rfl,rfl⟩
   ·rw[show fW t 4=(t.row 4,true)from if_neg (not_or.2 ⟨not_not_intro hc,h0⟩)];refine wh ?_;refine⟨show(0≤IntKind.i64.wrap (4 - 1))∧IntKind.i64.wrap (4 - 1)<(6:Int) by decide,?_⟩;refine wh ?_;exact⟨[],[some 0],_,_,_,t3,rfl,rfl,rfl⟩
  ·refine en L0 Tryz.f101 ?_;refine⟨[],[],_,_,_,_,hk,t3,cw ?_⟩;refine⟨by decide,?_⟩;refine wh ?_;refine sp ?_ ?_<;>intro h0
   ·rw[show fW t 5=(eO,false)from if_pos (.inr h0)];refine wh ?_;exact⟨[],[some 0],_,_,_,t3,rfl,rfl,rfl⟩
   ·rw[show fW t 5=(t.row 5,true)from if_neg (not_or.2 ⟨not_not_intro hc,h0⟩)];refine wh ?_;refine⟨show(0≤IntKind.i64.wrap (5 - 1))∧IntKind.i64.wrap (5 - 1)<(6:Int) by decide,?_⟩;refine wh ?_;exact⟨[],[some 0],_,_,_,t3,rfl,rfl,rfl⟩
  ·refine en L0 Tryz.f101 ?_;refine⟨[],[],_,_,_,_,hk,t3,cw ?_⟩;refine⟨by decide,?_⟩;refine wh ?_;refine sp ?_ ?_<;>intro h0
   ·rw[show fW t 6=(eO,false)from if_pos (.inr h0)];refine wh ?_;exact⟨[],[some 0],_,_,_,t3,rfl,rfl,rfl⟩
   ·rw[show fW t 6=(t.row 6,true)from if_neg (not_or.2 ⟨not_not_intro hc,h0⟩)];refine wh ?_;refine⟨show(0≤IntKind.i64.wrap (6 - 1))∧IntKind.i64.wrap (6 - 1)<(6:Int) by decide,?_⟩;refine wh ?_;exact⟨[],[some 0],_,_,_,t3,rfl,rfl,rfl⟩
 ·have hk:=qJ c;rw[show H9 c=false from by unfold H9;simpa using hc]at hk;rw[show fW t c=(eO,false)from if_pos (.inl hc)];refine en L0 Tryz.f101 ?_;refine⟨[],[],_,_,_,_,hk,t3,cw ?_⟩;exact⟨[],[some 0],_,_,_,t3,rfl,rfl,rfl⟩
theorem tY (t:eS) (r:fp):VC E0 149 1 [.ptr 0 0,.agg (Cr r)] (ny t) (RR (.s (.int .i64 (B5 t r))) 1 (ny (KY t r))):=by
 have hf:=WK r;cases hb:yf r
 ·rw[hb]at hf;have e1:B5 t r=1:=if_pos hb;rw[show KY t r=t from if_neg (by rw[e1];decide),e1];refine en L0 Tryz.f149 ?_;refine⟨[],[],_,_,_,_,hf,t3,cw ?_⟩;exact⟨[],[some 0],_,_,_,t3,rfl,rfl,rfl⟩
 ·rw[hb]at hf;have hj:=Aj t r.al r.num;by_cases h0:ct t r.al r.num=0
  ·have e1:B5 t r=0:=by unfold B5;rw[if_neg (by rw[hb];decide),if_neg (by rw[h0];decide)]
   rw[show KY t r=t.put r.al r from if_pos e1,e1];rw[h0]at hj;have hc:1≤r.al∧r.al≤6:=by unfold yf at hb;simp at hb;omega
   obtain⟨c,rn,rs,rc,rv⟩:=r;rcases Ai hc with rfl |rfl |rfl |rfl |rfl |rfl
   ·refine en L0 Tryz.f149 ?_;refine⟨[],[],_,_,_,_,hf,t3,cw ?_⟩;refine⟨[],[some 0],_,_,_,_,hj,t3,cw ?_⟩;refine sp ?_ ?_<;>intro h2
    ·exact absurd rfl h2
    ·refine wh ?_;refine⟨show(0≤IntKind.i64.wrap (1 - 1))∧IntKind.i64.wrap (1 - 1)<(6:Int) by decide,?_⟩;refine wh ?_;exact⟨[],[some 0],_,_,_,t3,rfl,rfl,rfl⟩
   ·refine en L0 Tryz.f149 ?_;refine⟨[],[],_,_,_,_,hf,t3,cw ?_⟩;refine⟨[],[some 0],_,_,_,_,hj,t3,cw ?_⟩;refine sp ?_ ?_<;>intro h2
    ·exact absurd rfl h2
    ·refine wh ?_;refine⟨show(0≤IntKind.i64.wrap (2 - 1))∧IntKind.i64.wrap (2 - 1)<(6:Int) by decide,?_⟩;refine wh ?_;exact⟨[],[some 0],_,_,_,t3,rfl,rfl,rfl⟩
   ·refine en L0 Tryz.f149 ?_;refine⟨[],[],_,_,_,_,hf,t3,cw ?_⟩;refine⟨[],[some 0],_,_,_,_,hj,t3,cw ?_⟩;refine sp ?_ ?_<;>intro h2
    ·exact absurd rfl h2
    ·refine wh ?_;refine⟨show(0≤IntKind.i64.wrap (3 - 1))∧IntKind.i64.wrap (3 - 1)<(6:Int) by decide,?_⟩;refine wh ?_;exact⟨[],[some 0],_,_,_,t3,rfl,rfl,rfl⟩
   ·refine en L0 Tryz.f149 ?_;refine⟨[],[],_,_,_,_,hf,t3,cw ?_⟩;refine⟨[],[some 0],_,_,_,_,hj,t3,cw ?_⟩;refine sp ?_ ?_<;>intro h2
    ·exact absurd rfl h2
    ·refine wh ?_;refine⟨show(0≤IntKind.i64.wrap (4 - 1))∧IntKind.i64.wrap (4 - 1)<(6:Int) by decide,?_⟩;refine wh ?_;exact⟨[],[some 0],_,_,_,t3,rfl,rfl,rfl⟩
   ·refine en L0 Tryz.f149 ?_;refine⟨[],[],_,_,_,_,hf,t3,cw ?_⟩;refine⟨[],[some 0],_,_,_,_,hj,t3,cw ?_⟩;refine sp ?_ ?_<;>intro h2
    ·exact absurd rfl h2
    ·refine wh ?_;refine⟨show(0≤IntKind.i64.wrap (5 - 1))∧IntKind.i64.wrap (5 - 1)<(6:Int) by decide,?_⟩;refine wh ?_;exact⟨[],[some 0],_,_,_,t3,rfl,rfl,rfl⟩
   ·refine en L0 Tryz.f149 ?_;refine⟨[],[],_,_,_,_,hf,t3,cw ?_⟩;refine⟨[],[some 0],_,_,_,_,hj,t3,cw ?_⟩;refine sp ?_ ?_<;>intro h2
    ·exact absurd rfl h2
    ·refine wh ?_;refine⟨show(0≤IntKind.i64.wrap (6 - 1))∧IntKind.i64.wrap (6 - 1)<(6:Int) by decide,?_⟩;refine wh ?_;exact⟨[],[some 0],_,_,_,t3,rfl,rfl,rfl⟩
  ·have e1:B5 t r=12:=by unfold B5;rw[if_neg (by rw[hb];decide),if_pos h0]
   rw[show KY t r=t from if_neg (by rw[e1];decide),e1];refine en L0 Tryz.f149 ?_;refine⟨[],[],_,_,_,_,hf,t3,cw ?_⟩;refine⟨[],[some 0],_,_,_,_,hj,t3,cw ?_⟩;refine sp ?_ ?_<;>intro h2
   ·refine wh ?_;exact⟨[],[some 0],_,_,_,t3,rfl,rfl,rfl⟩
   ·exact absurd h0 h2
@[reducible] def Em:TV:=.s (.pointer none)
@[reducible] def i0:TV:=.s (.int .i64 0)
@[reducible] def u0:TV:=.s (.int .u64 0)
@[reducible] def zV:TV:=.agg (jI fV)
@[reducible] def boxes (d:Int):Ob:=[(1,.cells [.s (.int .u64 d)]),(0,.cells [Em])]
theorem Cs:VC E0 114 0 [Em] [] (RR i0 0 []):=by
 refine en L0 Tryz.f114 ?_;exact⟨[],[],_,_,_,t3,rfl,rfl,rfl⟩
theorem Pe (i:Int):VC E0 113 0 [Em,.s (.int .i64 i)] [] (RR zV 0 []):=by
 refine en L0 Tryz.f113 ?_;exact⟨[],[],_,_,_,t3,rfl,rfl,rfl⟩
theorem Ia:VC E0 79 0 [Em] [] (RR zV 0 []):=by
 refine en L0 Tryz.f79 ?_;refine⟨[],[],_,_,_,_,Cs,t3,cw ?_⟩;refine⟨[],[],_,_,_,_,Pe (-1),t3,cw ?_⟩;exact⟨[],[],_,_,_,t3,rfl,rfl,rfl⟩
theorem En (g:Nat) (d:Int):VC E0 207 2 [i0,.cJ g [] [.ptr 0 0,.ptr 1 0]] (boxes d) (RR i0 2 (boxes d)):=by
 refine en L0 Tryz.f207 ?_;refine⟨fun k f o c=>k=0∧c=2∧f=[(1,.cJ g [] [.ptr 0 0,.ptr 1 0]),(5,i0),(6,i0)]∧o=boxes d,⟨0,?_⟩,?_⟩
 ·exact⟨[],[some 0,some 1],_,_,_,t3,⟨rfl,rfl,rfl,rfl⟩⟩
 ·rintro k f1 o1 c1 ⟨rfl,rfl,rfl,rfl⟩;refine wh ?_
  repeat((first|(refine⟨fun h_=>?_,fun h_=>?_⟩)|(refine aZ (fun h_=>?_) (fun h_=>?_))|(refine aY (fun h_=>?_) (fun h_=>?_)))<;>first|(exfalso;revert h_;decide;done)|(exact absurd rfl h_)|(have eN:=True.intro;clear eN;(conv=>whnf)))
  exact⟨[],[some 0,some 1],_,_,_,t3,rfl,rfl,rfl⟩
theorem Eo (d:Int):VC E0 166 0 [Em,.s (.int .u64 d)] [] (RR (.s (.int .i64 (-1))) 0 []):=by
 refine en L0 Tryz.f166 ?_;refine⟨[],[],_,_,_,_,Cs,t3,cw ?_⟩;refine⟨[],[some 0,some 1],_,_,_,_,En _ d,t3,cw ?_⟩;exact⟨[],[],_,_,_,t3,rfl,rfl,rfl⟩
theorem Ib (d:Int):VC E0 120 0 [Em,.s (.int .u64 d)] [] (RR i0 0 []):=by
 refine en L0 Tryz.f120 ?_;refine⟨[],[],_,_,_,_,Eo d,t3,cw ?_⟩;refine sp ?_ ?_<;>intro h
 ·exact absurd h (by decide)
 ·refine wh ?_;exact⟨[],[],_,_,_,t3,rfl,rfl,rfl⟩
@[reducible] def k8 (vs:List Vs):TV:=.own (O6 vs)
@[reducible] def tC (bs:List (Int×List Vs)):TO:=.dY (gQ .u32) (bs.map (lZ .u32 k8)) []
@[reducible] def WL (s:eZ):TO:=.cells [.s (.int .u64 s.e),.mp 1,.own (tB s.t)]
@[reducible] def pH (s:eZ):Ob:=[(0,WL s),(1,tC s.bs)]
@[reducible] def aaf (s:eZ) (k:Int) (vs:List Vs):Ob:=[(0,.cells [.s (.int .u64 s.e),.mp 1,.own (tB s.t)]),(1,.dY (gQ .u32) (s.bs.map (lZ .u32 k8)) [(.int .u32 k,.ptr 2 0)]),(2,O6 vs)]
theorem Ct (s:eZ) (k:Int) (h:eu s.bs k=none):VC E0 78 2 [.ptr 0 0,.s (.int .u32 k)] (pH s) (RR Em 2 (pH s)):=by
 refine en L0 Tryz.f78 ?_;refine⟨none,by rw[qC,h];rfl,?_⟩;refine wh ?_;exact⟨[],[some 0,some 1],_,_,_,t3,rfl,rfl,rfl⟩
theorem Cu (s:eZ) (k:Int) (vs:List Vs) (h:eu s.bs k=some vs):VC E0 78 2 [.ptr 0 0,.s (.int .u32 k)] (pH s) (RR (.ptr 2 0) 3 (aaf s k vs)):=by
 refine en L0 Tryz.f78 ?_;refine⟨some (k8 vs),by rw[qC,h];rfl,?_⟩;refine wh ?_;exact⟨[],[some 0,some 1,some 2],_,_,_,t3,rfl,rfl,rfl⟩
theorem Ic {bs:List (Int×List Vs)} {k:Int} {vs:List Vs} (h:eu bs k=some vs):ov bs k vs=bs:=by
 induction bs with
 |nil=>cases h
 |cons e es ih=>
  unfold eu at h;unfold ov;split at h
  ·rename_i he;cases h;rw[if_pos he,he]
  ·rename_i he;rw[if_neg he,ih h]
theorem Pf {bs:List (Int×List Vs)} {k:Int} {vs:List Vs} (h:eu bs k=some vs):GV (bs.map (lZ .u32 k8)) [(.int .u32 k,k8 vs)]=bs.map (lZ .u32 k8):=by
 show dc (bs.map (lZ .u32 k8)) (.int .u32 k) (k8 vs)=_;rw[D4,Ic h]
theorem Pg (i:Int):Nq [] i=fV:=by unfold Nq;split<;>simp
structure w7 (s:eZ):Prop where
 v:∀k vs,eu s.bs k=some vs→(∀v∈vs,O7 v)∧vs.length<100000
theorem qK {s:eZ} {k:Int} (h:eu s.bs k=none):yg s k=[]:=by unfold yg;rw[h];rfl
theorem qL {s:eZ} {k:Int} {vs:List Vs} (h:eu s.bs k=some vs):yg s k=vs:=by unfold yg;rw[h];rfl
theorem Gd (s:eZ) (k:Int) (H:w7 s):VC E0 38 2 [.ptr 0 0,.s (.int .u32 k)] (pH s) (RR (.agg (jI (gX (yg s k)))) 2 (pH s)):=by
 cases h:eu s.bs k with
 |none=>
  rw[qK h];refine en L0 Tryz.f38 ?_;refine⟨[],[some 0,some 1],_,_,_,_,Ct s k h,t3,cw ?_⟩;refine⟨[],[],_,_,_,_,Ia,t3,cw ?_⟩;exact⟨[],[some 0,some 1],_,_,_,t3,rfl,rfl,rfl⟩
 |some vs=>
  rw[qL h];obtain⟨hv,hn⟩:=H.v k vs h;refine en L0 Tryz.f38 ?_;refine⟨[],[some 0,some 1],_,_,_,_,Cu s k vs h,t3,cw ?_⟩;refine⟨[],[some 5],_,_,_,_,LH vs hv om,t3,cw ?_⟩;refine⟨[],[some 0,some 1],_,_,_,⟨tq,.cons (.cells tq) (.cons (.dY (kA:=[(_,k8 vs)]) .one (Lw.of (Pf h)) (.m1 (by rfl) tq)) .nil),by rfl⟩,⟨rfl,rfl,rfl⟩⟩
theorem Ph:VC E0 48 0 [] [] (RR (.ptr 0 0) 2 (pH ⟨0,[],oe⟩)):=by
 refine en L0 Tryz.f48 ?_;refine⟨[],[],_,_,_,_,Pc,t3,cw ?_⟩;exact⟨[],[some 2,some 0],_,_,_,t3,rfl,rfl,rfl⟩
theorem S8 (s:eZ):VC E0 32 2 [.ptr 0 0] (pH s) (RR (.s (.int .u64 s.e)) 2 (pH s)):=by
 refine en L0 Tryz.f32 ?_;exact⟨[],[some 0,some 1],_,_,_,t3,rfl,rfl,rfl⟩
theorem Ie (s:eZ) (c n:Int):VC E0 58 2 [.ptr 0 0,.s (.int .i64 c),.s (.int .u64 n)] (pH s) (RR (.s (.int .i64 (ct s.t c n))) 2 (pH s)):=by
 refine en L0 Tryz.f58 ?_;refine⟨[],[some 2],_,_,_,_,Aj s.t c n,t3,cw ?_⟩;exact⟨[],[some 0,some 1],_,_,_,t3,rfl,rfl,rfl⟩
theorem Pj (s:eZ) (c:Int):VC E0 59 2 [.ptr 0 0,.s (.int .i64 c)] (pH s) (RR (Pd (fW s.t c)) 2 (pH s)):=by
 refine en L0 Tryz.f59 ?_;refine⟨[],[some 3],_,_,_,_,Gc s.t c,t3,cw ?_⟩;exact⟨[],[some 0,some 1],_,_,_,t3,rfl,rfl,rfl⟩
theorem LL (bs:List (Int×List Vs)):VC E0 77 1 [.mp 0] [(0,tC bs)] (RR (.cJ 112 [] [.ptr 1 0]) 2 [(0,tC bs),(1,.cells [.mp 0])]):=by
 refine en L0 Tryz.f77 ?_;exact⟨[],[some 0,some 1],_,_,_,t3,rfl,rfl,rfl⟩
theorem Cv (s:eZ) (hn:s.bs.length<13):VC E0 37 2 [.ptr 0 0] (pH s) (RR (.sl 1 ((b7 (fu s.bs)).map hZ) false) 2 (pH s)):=by
 have hk:FP (fu s.bs) (tC s.bs):=⟨rfl,by
  rw[Ox]⟩
 refine en L0 Tryz.f37 ?_;refine⟨[],[some 1],_,_,_,_,LL s.bs,t3,cw ?_⟩;refine⟨[],[some 1,some 3],_,_,_,_,VC.vQ hk (by rw[List.length_map];exact hn),t3,cw ?_⟩;exact⟨[],[some 0,some 1],_,_,_,t3,rfl,rfl,rfl⟩
theorem Ep (bs:List (Int×List Vs)) (k:Int) (vs:List Vs):GV (bs.map (lZ .u32 k8)) [(.int .u32 k,k8 vs)]=(ov bs k vs).map (lZ .u32 k8):=by
 show dc (bs.map (lZ .u32 k8)) (.int .u32 k) (k8 vs)=_;rw[D4]
theorem Ge (s:eZ) (k:Int) (v:Vs) (hv:0≤v.dx∧v.dx≤18446744073709551615) (H:w7 s):VC E0 147 2 [.ptr 0 0,.s (.int .u32 k),.agg (jI v)] (pH s) (RR (.s (.int .i64 (py (yg s k) v))) 2 (pH (KZ s k v))):=by
 cases h:eu s.bs k with
 |none=>
  unfold KZ;rw[qK h];refine en L0 Tryz.f147 ?_;refine⟨none,by rw[qC,h];rfl,?_⟩;refine wh ?_;refine⟨[],[],_,_,_,_,O8,t3,cw ?_⟩;refine⟨[],[some 3],_,_,_,_,Gb [] v hv (by decide),t3,cw ?_⟩;refine⟨[],[some 0,some 1],_,_,_,⟨tq,.cons (.cells tq) (.cons (.dY (kA:=[(_,k8 (ow [] v))]) .one (Lw.of (Ep _ _ _)) (.m1 (by rfl) tq)) .nil),by rfl⟩,⟨rfl,rfl,rfl⟩⟩
 |some vs=>
  unfold KZ;rw[qL h];obtain⟨_,hn⟩:=H.v k vs h;refine en L0 Tryz.f147 ?_;refine⟨some (k8 vs),by rw[qC,h];rfl,?_⟩;refine wh ?_;refine⟨[],[some 3],_,_,_,_,Gb vs v hv hn,t3,cw ?_⟩;refine⟨[],[some 0,some 1],_,_,_,⟨tq,.cons (.cells tq) (.cons (.dY (kA:=[(_,k8 (ow vs v))]) .one (Lw.of (Ep _ _ _)) (.m1 (by rfl) tq)) .nil),by rfl⟩,⟨rfl,rfl,rfl⟩⟩
@[reducible] def S9 (q:fp×Int):TV:=.dg [.agg (Cr q.1),.s (.int .i64 q.2)]
theorem Gf {u:c7} (h:px u=0):u.seq≠0∧u.data.length≤2048:=by
 unfold px Uw at h;split at h
 ·split at h
  ·omega
  ·split at h
   ·rename_i h2;simp at h2;omega
   ·omega
 ·omega
theorem Er {u:c7} {dx:Int} {b:Bool} (h:0≤dx∧dx≤18446744073709551615):0≤(w6 u dx b).2.1∧(w6 u dx b).2.1≤18446744073709551615:=by
 unfold w6;split
 ·split
  ·exact h
  ·split
   ·exact h
   ·simp;omega
 ·exact h
theorem Cw {vs:List Vs} (hv:∀v∈vs,O7 v):0≤(gX vs).dx∧(gX vs).dx≤18446744073709551615:=by
 rcases vX vs with rfl |⟨ws,w,rfl⟩
 ·exact⟨by decide,by decide⟩
 ·rw[gj];exact(hv w (by simp)).dx
theorem Es {s:eZ} (H:w7 s) (k:Int):(∀v∈yg s k,O7 v)∧(yg s k).length<100000:=by
 cases h:eu s.bs k with
 |none=>rw[qK h];exact⟨by simp,by decide⟩
 |some vs=>rw[qL h];exact H.v k vs h
theorem LM {s:eZ} (h:(((s.bs.map (lZ .u32 k8)).length:Nat):Int)<192):qD s=true:=decide_eq_true (by rw[List.length_map]at h;omega)
theorem LN {s:eZ} (h:qD s=true):(((s.bs.map (lZ .u32 k8)).length:Nat):Int)<192:=by
 have:s.bs.length<192:=of_decide_eq_true h;rw[List.length_map];omega
theorem LO (s:eZ) (u:c7) (H:w7 s) (hu:LD u):VC E0 102 2 [.ptr 0 0,.agg (cS u)] (pH s) (RR (S9 (nq s u).1) 2 (pH (nq s u).2)):=by
 have hs:=hu.seq;unfold nq;by_cases h0:px u=0
 ·rw[if_neg (not_not_intro h0)];have hc:=vW u;rw[h0]at hc;obtain⟨AA,hdl⟩:=Gf h0;have hw:IntKind.u64.wrap (u.seq - 1)=u.seq - 1:=IntWalk.u64_in _ om;by_cases h1:u.seq - 1=s.e
  ·rw[if_neg (not_not_intro h1)];have hj:=Aj s.t u.al u.num;have hl:=Gd {s with e:=u.seq} u.key ⟨H.v⟩;have hlr:=Cw (Es H u.key).1;have ho:=Ej u (gX (yg s u.key)).dx (qD s) hlr;refine en L0 Tryz.f102 ?_;refine⟨[],[],_,_,_,_,hc,t3,cw ?_⟩;refine sp ?_ ?_<;>intro h2
   ·exact absurd rfl h2
   ·refine wh ?_;refine sp ?_ ?_<;>intro h3
    ·have h3:IntKind.u64.wrap (u.seq - 1)≠s.e:=h3;rw[hw]at h3;exact absurd h1 h3
    ·refine wh ?_;refine⟨[],[some 4],_,_,_,_,hj,t3,cw ?_⟩;refine sp ?_ ?_<;>intro h4
     ·have h4:ct s.t u.al u.num≠0:=h4;rw[if_pos h4];refine wh ?_;exact⟨[],[some 0,some 1],_,_,_,t3,rfl,rfl,rfl⟩
     ·have h4:¬ct s.t u.al u.num≠0:=h4;rw[if_neg h4];refine wh ?_;refine⟨[],[some 0,some 1],_,_,_,_,hl,t3,cw ?_⟩;rcases hq:K3 s u with⟨qc,qv,qb⟩;rw[show w6 u (gX (yg s u.key)).dx (qD s)=(qc,qv,qb)from hq]at ho;have hqv:0≤qv∧qv≤18446744073709551615:=by
       have:=Er (u:=u) (b:=qD s) hlr;rw[show w6 u (gX (yg s u.key)).dx (qD s)=(qc,qv,qb)from hq]at this;exact this
      have gm:K4 s u=⟨u.al,u.num,u.seq,qc,qv⟩:=by unfold K4;rw[hq]
      have oB:wrote s u=if qb=true then KZ {s with e:=u.seq} u.key ⟨qv,u.seq,u.data⟩else {s with e:=u.seq}:=by unfold wrote;rw[hq]
      rw[gm,oB];cases qb
      ·rw[if_neg Bool.false_ne_true];cases hr:qD s
       ·rw[hr]at ho;refine sp ?_ ?_<;>intro h5
        ·exact absurd ((LM h5).symm.trans hr) (by decide)
        ·refine wh ?_;refine⟨[],[],_,_,_,_,ho,t3,cw ?_⟩;refine⟨[],[some 9],_,_,_,_,tY s.t ⟨u.al,u.num,u.seq,qc,qv⟩,t3,cw ?_⟩;exact⟨[],[some 0,some 1],_,_,_,t3,rfl,rfl,rfl⟩
       ·rw[hr]at ho;refine sp ?_ ?_<;>intro h5
        ·refine wh ?_;refine⟨[],[],_,_,_,_,ho,t3,cw ?_⟩;refine⟨[],[some 9],_,_,_,_,tY s.t ⟨u.al,u.num,u.seq,qc,qv⟩,t3,cw ?_⟩;exact⟨[],[some 0,some 1],_,_,_,t3,rfl,rfl,rfl⟩
        ·exact absurd (LN hr) h5
      ·rw[if_pos rfl];cases hr:qD s
       ·rw[hr]at ho;refine sp ?_ ?_<;>intro h5
        ·exact absurd ((LM h5).symm.trans hr) (by decide)
        ·refine wh ?_;refine⟨[],[],_,_,_,_,ho,t3,cw ?_⟩;refine⟨[],[],_,_,_,_,F6 u qv om,t3,cw ?_⟩;refine⟨[],[some 0,some 1],_,_,_,_,Ge {s with e:=u.seq} u.key ⟨qv,u.seq,u.data⟩ hqv ⟨H.v⟩,t3,cw ?_⟩;refine⟨[],[some 11],_,_,_,_,tY s.t ⟨u.al,u.num,u.seq,qc,qv⟩,t3,cw ?_⟩;exact⟨[],[some 0,some 1],_,_,_,t3,rfl,rfl,rfl⟩
       ·rw[hr]at ho;refine sp ?_ ?_<;>intro h5
        ·refine wh ?_;refine⟨[],[],_,_,_,_,ho,t3,cw ?_⟩;refine⟨[],[],_,_,_,_,F6 u qv om,t3,cw ?_⟩;refine⟨[],[some 0,some 1],_,_,_,_,Ge {s with e:=u.seq} u.key ⟨qv,u.seq,u.data⟩ hqv ⟨H.v⟩,t3,cw ?_⟩;refine⟨[],[some 11],_,_,_,_,tY s.t ⟨u.al,u.num,u.seq,qc,qv⟩,t3,cw ?_⟩;exact⟨[],[some 0,some 1],_,_,_,t3,rfl,rfl,rfl⟩
        ·exact absurd (LN hr) h5
  ·rw[if_pos h1];refine en L0 Tryz.f102 ?_;refine⟨[],[],_,_,_,_,hc,t3,cw ?_⟩;refine sp ?_ ?_<;>intro h2
   ·exact absurd rfl h2
   ·refine wh ?_;refine sp ?_ ?_<;>intro h3
    ·refine wh ?_;exact⟨[],[some 0,some 1],_,_,_,t3,rfl,rfl,rfl⟩
    ·have h3:¬IntKind.u64.wrap (u.seq - 1)≠s.e:=h3;rw[hw]at h3;exact absurd h1 h3
 ·rw[if_pos h0];have hc:=vW u;refine en L0 Tryz.f102 ?_;refine⟨[],[],_,_,_,_,hc,t3,cw ?_⟩;refine sp ?_ ?_<;>intro h2
  ·refine wh ?_;exact⟨[],[some 0,some 1],_,_,_,t3,rfl,rfl,rfl⟩
  ·exact absurd h0 h2
@[reducible] def Ux (l:List c7):TO:=.arr 7 true (l.map cS)
theorem nA (after:Int):∀(l:List c7) (left:Int) (u:c7),bI after (l++[u]) left=bI after l left++(if u.seq≤after∨left - (bI after l left).length<1 then []else [u])
 |[],left,u=>by
  show bI after [u] left=[]++_;unfold bI;simp only[bI,List.length_nil,List.nil_append];split<;>split<;>first|rfl |(rename_i h1 h2;exact absurd (by simpa using h1) (by simpa using h2))|(rename_i h1 h2;exact absurd (by simpa using h2) (by simpa using h1))
 |x::l,left,u=>by
  show bI after (x::(l++[u])) left=bI after (x::l) left++_;unfold bI;split
  ·exact nA after l left u
  ·rw[nA after l (left - 1) u,List.cons_append];have:left - 1 - ((bI after l (left - 1)).length:Int)=left - (((x::bI after l (left - 1)).length:Nat):Int):=by simp;omega
   rw[this]
theorem l8 (after:Int):∀(l:List c7) (left:Int),(bI after l left).length≤l.length
 |[],_=>Nat.le_refl _
 |u::l,left=>by
  unfold bI;split
  ·have:=l8 after l left;simp;omega
  ·have:=l8 after l (left - 1);simp;omega
theorem nB (after:Int):∀(l:List c7) (left:Int),0≤left→((bI after l left).length:Int)≤left
 |[],left,h=>by simpa[bI]using h
 |u::l,left,h=>by
  unfold bI;split
  ·exact nB after l left h
  ·have:=nB after l (left - 1) om;simp;omega
@[reducible] def Gg (n:Int):TO:=.cells [.s (.int .u64 n)]
@[reducible] def Ta (n:Int):TO:=.cells [.s (.int .i64 n)]
theorem Ig (after left:Int) (u:c7) (h:u.seq≤after∨left<1):VC E0 160 2 [.agg (cS u),.ptr 0 0,.ptr 1 0] [(0,Gg after),(1,Ta left)] (RR (.s (.bool false)) 2 [(0,Gg after),(1,Ta left)]):=by
 refine en L0 Tryz.f160 ?_;refine sp ?_ ?_<;>intro h1
 ·refine wh ?_;exact⟨[],[some 0,some 1],_,_,_,t3,rfl,rfl,rfl⟩
 ·refine wh ?_;refine sp ?_ ?_<;>intro h2
  ·refine wh ?_;exact⟨[],[some 0,some 1],_,_,_,t3,rfl,rfl,rfl⟩
  ·exact absurd h (by intro q;rcases q with q|q;exact h1 q;exact h2 q)
theorem Et (after left:Int) (u:c7) (h:¬(u.seq≤after∨left<1)) (hl:left<1000000):VC E0 160 2 [.agg (cS u),.ptr 0 0,.ptr 1 0] [(0,Gg after),(1,Ta left)] (RR (.s (.bool true)) 2 [(0,Gg after),(1,Ta (left - 1))]):=by
 have hw:IntKind.i64.wrap (left - 1)=left - 1:=IntWalk.i64_in _ om;refine en L0 Tryz.f160 ?_;refine sp ?_ ?_<;>intro h1
 ·exact absurd (.inl h1) h
 ·refine wh ?_;refine sp ?_ ?_<;>intro h2
  ·exact absurd (.inr h2) h
  ·refine wh ?_;rw[hw];exact⟨[],[some 0,some 1],_,_,_,t3,rfl,rfl,rfl⟩
@[reducible] def WM (a b:Nat):TV:=.cJ 160 [] [.ptr a 0,.ptr b 0]
theorem LP (l:List c7) (after left:Int) (hl:l.length<100000) (h0:0≤left∧left<100000) (hd:∀u∈l,u.data.length<1000000):VC E0 104 3 [.tk 0,WM 1 2] [(0,Ux l),(1,Gg after),(2,Ta left)]
 (RR (.sl 7 ((bI after l left).map cS) false) 3 [(0,Ux l),(1,Gg after),(2,Ta (left - (bI after l left).length))]):=by
 refine en L0 Tryz.f104 ?_;refine⟨fun k f o c=>∃i:Nat,i≤l.length∧k=l.length - i∧c=4∧f=[(1,WM 1 2),(5,.tk 3),(8,.tk 0),(9,.s (.int .i64 l.length)),(10,.s (.int .i64 i))]∧o=[(0,Ux l),(1,Gg after),(2,Ta (left - (bI after (l.take i) left).length)),(3,.arr 7 true ((bI after (l.take i) left).map cS))],⟨l.length,?_⟩,?_⟩
 ·refine⟨[],[some 0,some 1,some 2,none],?_⟩
  iterate 3 constructor
  refine⟨⟨?_,?_,?_⟩,⟨0,Nat.zero_le _,rfl,rfl,rfl,rfl⟩⟩
  all_goals(repeat' first|exact LF|constructor)
  ·exact Lz.int (by rw[List.length_map])
  ·exact Lz.int (by simp[bI])
 ·rintro k f1 o1 c1 ⟨i,hi,rfl,rfl,rfl,rfl⟩;refine wh ?_;refine sp ?_ ?_<;>intro h
  ·have h:i<l.length:=by have h:(i:Int)<l.length:=h
                         omega
   have hs:bI after (l.take (i+1)) left=bI after (l.take i) left++(if l[i].seq≤after∨left - (bI after (l.take i) left).length<1 then []else [l[i]]):=by rw[ji l i h,nA]
   have Jo:=l8 after (l.take i) left;have dy:=nB after (l.take i) left h0.1;rw[List.length_take]at Jo;have Tb:=hd _ (List.getElem_mem h);have CZ:IntKind.i64.wrap ((i:Int)+1)=((i+1:Nat):Int):=IntWalk.i64_in _ om;refine wh ?_;refine⟨⟨om,by rw[List.length_map];omega⟩,?_⟩;refine wh ?_;refine⟨cS l[i],by simp[h],?_⟩;refine wh ?_;by_cases hq:l[i].seq≤after∨left - (bI after (l.take i) left).length<1
   ·rw[if_pos hq,List.append_nil]at hs;refine⟨[],[some 1,some 2],_,_,_,_,Ig after _ l[i] hq,t3,cw ?_⟩;refine⟨l.length - (i+1),?_,om⟩;rw[CZ,←hs];exact⟨[],[some 0,some 1,some 2,some 3],_,_,_,t3,⟨i+1,h,rfl,rfl,rfl,rfl⟩⟩
   ·rw[if_neg hq]at hs;refine⟨[],[some 1,some 2],_,_,_,_,Et after _ l[i] hq om,t3,cw ?_⟩;refine⟨[],[],_,_,_,_,nw l[i].data Tb,t3,cw ?_⟩;refine⟨by simp;omega,?_⟩;refine wh ?_;refine⟨l.length - (i+1),?_,om⟩;rw[CZ];refine⟨[],[some 0,some 1,some 2,some 8],?_⟩
    iterate 3 constructor
    refine⟨⟨?_,?_,?_⟩,⟨i+1,h,rfl,rfl,rfl,rfl⟩⟩
    all_goals(repeat' first|exact LF|constructor)
    all_goals first|exact Lz.int (by rw[hs,List.length_append];simp;omega)|exact Lz.of (by rw[hs,List.map_append];rfl)
  ·obtain rfl:i=l.length:=by have h:¬(i:Int)<l.length:=h;omega
   rw[List.take_length];refine wh ?_;exact⟨[3],[some 0,some 1,some 2],_,_,_,t3,rfl,rfl,rfl⟩
theorem Cy (l:List c7) (after left:Int) (hl:l.length<100000) (h0:0≤left∧left<100000) (hd:∀u∈l,u.data.length<1000000):VC E0 109 1 [.tk 0,.s (.int .u64 after),.s (.int .i64 left)] [(0,Ux l)]
 (RR (.sl 7 ((bI after l left).map cS) false) 1 [(0,Ux l)]):=by
 refine en L0 Tryz.f109 ?_;refine⟨[],[some 0,some 1,some 2],_,_,_,_,LP l after left hl h0 hd,t3,cw ?_⟩;exact⟨[],[some 0],_,_,_,t3,rfl,rfl,rfl⟩
theorem LQ (u:c7):VC E0 189 0 [.agg (cS u)] [] (RR (.s (.bool true)) 0 []):=by
 refine en L0 Tryz.f189 ?_;exact⟨[],[],_,_,_,t3,rfl,rfl,rfl⟩
theorem LR (u:c7) (hd:u.data.length≤2048):VC E0 104 0 [.sl 7 [cS u] false,.cJ 189 [] []] [] (RR (.sl 7 [cS u] false) 0 []):=by
 refine VC.dp L0 (show E0.func 104=some Tryz.f104 by kernel_rfl) (fun _ _=>rfl) rfl rfl [999999] ?_;refine wh ?_
 repeat((first|(refine⟨fun h_=>?_,fun h_=>?_⟩)|(refine aZ (fun h_=>?_) (fun h_=>?_))|(refine aY (fun h_=>?_) (fun h_=>?_)))<;>first|(exfalso;revert h_;decide;done)|(exfalso;revert h_;simp;done)|(have eN:=True.intro;clear eN;(conv=>whnf)))
 refine⟨cS u,⟨by decide,rfl⟩,?_⟩;refine wh ?_;refine⟨[],[],_,_,_,_,LQ u,t3,cw ?_⟩;refine⟨[],[],_,_,_,_,nw u.data om,t3,cw ?_⟩;refine⟨by simp,?_⟩;refine wh ?_;rw[Wr]
 repeat((first|(refine⟨fun h_=>?_,fun h_=>?_⟩)|(refine aZ (fun h_=>?_) (fun h_=>?_))|(refine aY (fun h_=>?_) (fun h_=>?_)))<;>first|(exfalso;revert h_;decide;done)|(exfalso;revert h_;simp;done)|(have eN:=True.intro;clear eN;(conv=>whnf)))
 exact⟨[2],[],_,_,_,t3,rfl,rfl,rfl⟩
theorem LU (u:c7) (hd:u.data.length≤2048):VC E0 150 0 [.sl 7 [cS u] false] [] (RR (.sl 7 [cS u] false) 0 []):=by
 refine en L0 Tryz.f150 ?_;refine⟨[],[],_,_,_,_,LR u hd,t3,cw ?_⟩;exact⟨[],[],_,_,_,t3,rfl,rfl,rfl⟩
@[reducible] def Tc (w:gT):TO:=.cells [.s (.int .u64 w.low),.s (.int .u64 w.done),.own (Ux w.l)]
@[reducible] def iG (w:gT):Ob:=[(0,Tc w)]
structure tZ (w:gT):Prop where
 low:0≤w.low∧w.low≤1000000
 done:0≤w.done∧w.done≤1000000
 len:w.l.length≤10000
 data:∀u∈w.l,u.data.length≤2048
theorem aah {w:gT} (H:tZ w):IntKind.u64.wrap (w.low+IntKind.u64.wrap (((w.l.map cS).length:Nat):Int))=aU w:=by
 have:=H.low;have:=H.len;rw[List.length_map,IntWalk.u64_in ((w.l.length:Nat):Int) om,IntWalk.u64_in _ om]
theorem Pk (n:Int):VC E0 49 0 [.s (.int .u64 n)] [] (RR (.ptr 0 0) 1 (iG ⟨n,n,[]⟩)):=by
 refine en L0 Tryz.f49 ?_;exact⟨[],[some 0],_,_,_,t3,rfl,rfl,rfl⟩
theorem eW (w:gT) (H:tZ w):VC E0 42 1 [.ptr 0 0] (iG w) (RR (.s (.int .u64 (aU w))) 1 (iG w)):=by
 have hw:=aah H;refine en L0 Tryz.f42 ?_
 repeat((first|(refine⟨fun h_=>?_,fun h_=>?_⟩)|(refine aZ (fun h_=>?_) (fun h_=>?_))|(refine aY (fun h_=>?_) (fun h_=>?_)))<;>first|(exfalso;revert h_;decide;done)|(exact absurd rfl h_)|(have eN:=True.intro;clear eN;(conv=>whnf)))
 rw[hw];exact⟨[],[some 0],_,_,_,t3,rfl,rfl,rfl⟩
theorem k9 (w:gT):VC E0 33 1 [.ptr 0 0] (iG w) (RR (.s (.int .u64 w.done)) 1 (iG w)):=by
 refine en L0 Tryz.f33 ?_
 repeat((first|(refine⟨fun h_=>?_,fun h_=>?_⟩)|(refine aZ (fun h_=>?_) (fun h_=>?_))|(refine aY (fun h_=>?_) (fun h_=>?_)))<;>first|(exfalso;revert h_;decide;done)|(exact absurd rfl h_)|(have eN:=True.intro;clear eN;(conv=>whnf)))
 exact⟨[],[some 0],_,_,_,t3,rfl,rfl,rfl⟩
theorem Cz (w:gT) (H:tZ w) (h:aU w<32):VC E0 119 1 [.ptr 0 0] (iG w) (RR (.dg []) 1 (iG w)):=by
 have hw:=eW w H;refine en L0 Tryz.f119 ?_;refine⟨[],[some 0],_,_,_,_,hw,t3,cw ?_⟩;refine sp ?_ ?_<;>intro h1
 ·refine wh ?_;exact⟨[],[some 0],_,_,_,t3,rfl,rfl,rfl⟩
 ·exact absurd h h1
theorem Pl (w:gT) (u:c7) (H:tZ w) (hu:px u=0) (hs:u.seq - 1=aU w) (h0:1≤u.seq) (h:aU w+1<32):VC E0 103 1 [.ptr 0 0,.agg (cS u)] (iG w) (RR (.s (.int .i64 0)) 1 (iG (ON w u))):=by
 have hc:=vW u;rw[hu]at hc;have ui:=H.low;have hle:=H.len;have hdl:u.data.length≤2048:=(Gf hu).2;have Jf:IntKind.u64.wrap (u.seq - 1)=u.seq - 1:=IntWalk.u64_in _ om;have e8:=eW w H;have hE:aU w=w.low+(w.l.length:Nat):=rfl;have H2:tZ {w with l:=w.l++[u]}:=⟨H.low,H.done,by rw[List.length_append];simp;omega,fun x hx=>by
  rcases List.mem_append.1 hx with q|q
  ·exact H.data x q
  ·simp at q;subst q;exact hdl⟩
 have e2:aU {w with l:=w.l++[u]}=aU w+1:=by show w.low+((w.l++[u]).length:Nat)=_;rw[List.length_append,hE];simp;omega
 have Rn:=Cz {w with l:=w.l++[u]} H2 om;have e:ON w u={w with l:=w.l++[u]}:=by
  unfold ON;rw[if_neg (not_not_intro hu),if_neg (not_not_intro hs)];unfold Cj;rw[if_pos om]
 rw[e];refine en L0 Tryz.f103 ?_
 repeat((first|(refine⟨fun h_=>?_,fun h_=>?_⟩)|(refine aZ (fun h_=>?_) (fun h_=>?_))|(refine aY (fun h_=>?_) (fun h_=>?_)))<;>first|(exfalso;revert h_;decide;done)|(exact absurd rfl h_)|(have eN:=True.intro;clear eN;(conv=>whnf)))
 refine⟨[],[],_,_,_,_,hc,t3,cw ?_⟩
 repeat((first|(refine⟨fun h_=>?_,fun h_=>?_⟩)|(refine aZ (fun h_=>?_) (fun h_=>?_))|(refine aY (fun h_=>?_) (fun h_=>?_)))<;>first|(exfalso;revert h_;decide;done)|(exact absurd rfl h_)|(have eN:=True.intro;clear eN;((conv=>whnf)<;>repeat(with_reducible refine D1 ?_)<;>conv=>whnf)))
 rw[Jf];refine⟨[],[some 0],_,_,_,_,e8,t3,cw ?_⟩;refine sp ?_ ?_<;>intro bc
 ·exact absurd hs bc
 refine wh ?_;refine⟨[4],[],_,_,_,_,LU u hdl,t3,cw ?_⟩;refine⟨by simp;omega,?_⟩;refine wh ?_;refine⟨[],[some 0],_,_,_,_,Rn,⟨by((repeat' first|exact LF|constructor);all_goals(exact Lz.of (by rw[List.map_append];rfl))),by((repeat' first|exact LF|constructor);all_goals(exact Lz.of (by rw[List.map_append];rfl))),by rfl⟩,?_⟩;rintro r o' c' ⟨rfl,rfl,rfl⟩;refine wh ?_;exact⟨[],[some 0],_,_,_,t3,rfl,rfl,rfl⟩
theorem Gj (w:gT) (H:tZ w) (cC jf:Int) (h0:0≤jf∧jf<100000) (l:List c7) (h:mq w cC jf=some l):VC E0 68 1 [.ptr 0 0,.s (.int .u64 cC),.s (.int .i64 jf)] (iG w) (RR (.dg [.sl 7 (l.map cS) false,.s (.bool true)]) 1 (iG w)):=by
 have e8:=eW w H;unfold mq at h;split at h
 ·cases h
 rename_i hn;cases h;rw[not_or]at hn;have hb:=Cy w.l cC jf (by have:=H.len;omega) h0 (fun u hu=>by have:=H.data u hu;omega);refine en L0 Tryz.f68 ?_;refine sp ?_ ?_<;>intro h1
 ·exact absurd h1 hn.1
 refine wh ?_;refine⟨[],[some 0],_,_,_,_,e8,t3,cw ?_⟩;refine sp ?_ ?_<;>intro h2
 ·exact absurd h2 hn.2
 refine wh ?_;refine⟨[],[some 2],_,_,_,_,hb,t3,cw ?_⟩;exact⟨[],[some 0],_,_,_,t3,rfl,rfl,rfl⟩
theorem Td (w:gT) (n:Int):(if(if aU w<n then aU w else n)>w.done then(if aU w<n then aU w else n)else w.done)=cg w n:=by
 unfold cg;generalize aU w=e;split<;>split<;>omega
theorem LV (w:gT) (n:Int) (H:tZ w) (_:0≤n∧n≤1000000) (hd:w.done≤aU w) (Pm:aU w<32):VC E0 90 1 [.ptr 0 0,.s (.int .u64 n)] (iG w) (RR (.sl 7 ((fX w n).1.map cS) false) 1 (iG (fX w n).2)):=by
 have e8:=eW w H;have hE:aU w=w.low+(w.l.length:Nat):=rfl;have hdn:=H.done;have ui:=H.low;have hle:=H.len;have hr:w.done≤cg w n∧cg w n≤aU w:=by unfold cg;omega
 have H2:tZ {w with done:=cg w n}:=⟨H.low,by show 0≤cg w n∧cg w n≤1000000;omega,H.len,H.data⟩;have hb:=Cy w.l w.done (cg w n - w.done) om om (fun u hu=>by have:=H.data u hu;omega);have Rn:=Cz {w with done:=cg w n} H2 (by show aU w<32;exact Pm);have e:fX w n=(bI w.done w.l (cg w n - w.done),{w with done:=cg w n}):=by
  unfold fX Cj;rw[if_pos (show aU {w with done:=cg w n}<32 from Pm)]
 have Jf:IntKind.u64.wrap (cg w n - w.done)=cg w n - w.done:=IntWalk.u64_in _ om;have N3:IntKind.i64.wrap (cg w n - w.done)=cg w n - w.done:=IntWalk.i64_in _ om;rw[e];refine en L0 Tryz.f90 ?_;refine⟨[],[some 0],_,_,_,_,e8,t3,cw ?_⟩;rw[Td w n,Jf,N3];refine⟨[],[some 2],_,_,_,_,hb,t3,cw ?_⟩;refine⟨[],[some 0],_,_,_,_,Rn,t3,cw ?_⟩;exact⟨[],[some 0],_,_,_,t3,rfl,rfl,rfl⟩
theorem yB (w:gT) (H:tZ w) (hd:w.done≤aU w):VC E0 43 1 [.ptr 0 0] (iG w) (RR (.s (.int .i64 (ky w))) 1 (iG w)):=by
 have e8:=eW w H;have hE:aU w=w.low+(w.l.length:Nat):=rfl;have hdn:=H.done;have ui:=H.low;have hle:=H.len;have Jf:IntKind.u64.wrap (aU w - w.done)=aU w - w.done:=IntWalk.u64_in _ om;have N3:IntKind.i64.wrap (aU w - w.done)=aU w - w.done:=IntWalk.i64_in _ om;refine en L0 Tryz.f43 ?_;refine⟨[],[some 0],_,_,_,_,e8,t3,cw ?_⟩;refine⟨[],[some 0],_,_,_,_,k9 w,t3,cw ?_⟩;rw[Jf,N3];exact⟨[],[some 0],_,_,_,t3,rfl,rfl,rfl⟩
theorem LW (w:gT) (H:tZ w) (hd:w.done≤aU w):VC E0 61 1 [.ptr 0 0] (iG w) (RR (.s (.bool (decide (ky w<16)))) 1 (iG w)):=by
 have Tb:=yB w H hd;refine en L0 Tryz.f61 ?_;refine⟨[],[some 0],_,_,_,_,Tb,t3,cw ?_⟩;refine sp ?_ ?_<;>intro h
 ·have h:ky w<16:=h;refine wh ?_;refine⟨[],[some 0],_,_,_,tx ?_,rfl,rfl,rfl⟩;exact Lz.of (aL (Eq.symm (decide_eq_true h)))
 ·have h:¬ky w<16:=h;refine wh ?_;refine⟨[],[some 0],_,_,_,tx ?_,rfl,rfl,rfl⟩;exact Lz.of (aL (Eq.symm (decide_eq_false h)))
@[reducible] def eX (n:Int):List TV:=[.s (.int .i64 n)]
def dS (c:CF):List TV:=[.s (.int .i64 c.chain),.s (.int .u64 c.bL),.sl 1 (c.nodes.map eX) false,.s (.bool c.fresh),.s (.int .i64 c.join)]
theorem yC (l:List Int) (x:Int) (hl:l.length<1000000):VC E0 82 0 [.sl 1 (l.map eX) false,.s (.int .i64 x)] []
 (fun r o c=>∃i:Int,r= .s (.int .i64 i)∧((x∉l∧i= -1)∨(i=gI x l∧gI x l<l.length))∧c=0∧o=[]):=by
 refine en L0 Tryz.f82 ?_;refine⟨fun k f o c=>∃j:Nat,j≤l.length∧k=l.length - j∧x∉l.take j∧c=0∧f=[(0,.sl 1 (l.map eX) false),(1,.s (.int .i64 x)),(7,.s (.int .i64 l.length)),(8,.s (.int .i64 j))]∧o=[],⟨l.length,?_⟩,?_⟩
 ·refine⟨[],[],_,_,_,tx ?_,⟨0,Nat.zero_le _,rfl,by simp,rfl,rfl,rfl⟩⟩;exact Lz.int (by rw[List.length_map])
 ·rintro k f1 o1 c1 ⟨j,hj,rfl,hn,rfl,rfl,rfl⟩;refine wh ?_;refine sp ?_ ?_<;>intro h
  ·have h:j<l.length:=by have:(j:Int)<(l.length:Nat):=h
                         omega
   refine wh ?_;refine mB h ?_;refine wh ?_;refine sp ?_ ?_<;>intro he
   ·have he:x=l[j]:=he;have hx:=FU h he.symm hn;refine wh ?_;exact⟨[],[],_,_,_,t3,_,rfl,.inr ⟨by rw[hx],by rw[hx];exact h⟩,rfl,rfl⟩
   ·have he:¬x=l[j]:=he;refine wh ?_;refine⟨l.length - (j+1),?_,om⟩;exact⟨[],[],_,_,_,t3,⟨j+1,h,rfl,(by rw[List.take_succ_eq_append_getElem h];simp only[List.mem_append,List.mem_singleton,not_or];exact⟨hn,he⟩),rfl,rfl,rfl⟩⟩
  ·have WN:j=l.length:=by have:¬(j:Int)<(l.length:Nat):=h
                          omega
   subst WN;rw[List.take_length]at hn;refine wh ?_;exact⟨[],[],_,_,_,t3,_,rfl,.inl ⟨hn,rfl⟩,rfl,rfl⟩
theorem Ih (l:List Int) (x:Int) (hl:l.length<1000000):VC E0 82 0 [.sl 1 (l.map eX) false,.s (.int .i64 x)] []
 (fun r o c=>∃i:Int,r= .s (.int .i64 i)∧(0≤i↔x∈l)∧c=0∧o=[]):=
 (yC l x hl).mono fun r o c ⟨i,h1,h2,h3⟩=>⟨i,h1,by
  rcases h2 with⟨q,rfl⟩|⟨rfl,q⟩
  ·exact⟨fun h=>absurd h (by decide),fun h=>absurd h q⟩
  ·exact⟨fun _=>Ch q,fun _=>Int.natCast_nonneg _⟩,h3⟩
theorem l9 (l:List Int) (x:Int) (hl:l.length<1000000):VC E0 41 0 [.sl 1 (l.map eX) false,.s (.int .i64 x)] [] (RR (.s (.bool (decide (x∈l)))) 0 []):=by
 refine en L0 Tryz.f41 ?_;refine⟨[],[],_,_,_,_,Ih l x hl,t3,?_⟩;rintro r o' c' ⟨i,rfl,hi,rfl,rfl⟩;refine wh ?_;refine sp ?_ ?_<;>intro xn
 ·have xn:i≥0:=xn;refine wh ?_;refine⟨[],[],_,_,_,tx ?_,rfl,rfl,rfl⟩;exact Lz.of (aL (Eq.symm (decide_eq_true (hi.1 xn))))
 ·have xn:¬i≥0:=xn;refine wh ?_;refine⟨[],[],_,_,_,tx ?_,rfl,rfl,rfl⟩;exact Lz.of (aL (Eq.symm (decide_eq_false (mt hi.2 xn))))
theorem sc (l:List Int) (hl:l.length<1000000):VC E0 143 0 [.sl 1 (l.map eX) false] [] (RR (.tk 0) 1 [(0,.arr 1 true (l.map eX))]):=by
 refine en L0 Tryz.f143 ?_;refine⟨fun h=>?_,?_⟩
 ·have h:l=[]:=by simpa using h
  subst h;refine wh ?_;exact⟨[],[none],_,_,_,t3,rfl,rfl,rfl⟩
 ·refine wh ?_;refine⟨by simp;omega,?_⟩;refine wh ?_;exact⟨[],[some 1],_,_,_,t3,rfl,rfl,rfl⟩
def QG (n:Int):Bool:=decide (1≤n∧n≤24)
theorem LX (n:Int):VC E0 142 0 [.s (.int .i64 n)] [] (RR (.s (.bool (QG n))) 0 []):=by
 refine en L0 Tryz.f142 ?_;refine sp ?_ ?_<;>intro h1
 ·have h1:n≥1:=h1;refine wh ?_;refine sp ?_ ?_<;>intro h2
  ·have h2:n≤24:=h2;refine wh ?_;refine⟨[],[],_,_,_,tx ?_,rfl,rfl,rfl⟩;exact Lz.of (aL (Eq.symm (decide_eq_true ⟨h1,h2⟩)))
  ·have h2:¬n≤24:=h2;refine wh ?_;refine⟨[],[],_,_,_,tx ?_,rfl,rfl,rfl⟩;exact Lz.of (aL (Eq.symm (decide_eq_false fun h=>h2 h.2)))
 ·have h1:¬n≥1:=h1;refine wh ?_;refine⟨[],[],_,_,_,tx ?_,rfl,rfl,rfl⟩;exact Lz.of (aL (Eq.symm (decide_eq_false fun h=>h1 h.1)))
def jg (l:List Int):Prop:=l.Nodup∧∀n∈l,1≤n∧n≤24
instance (l:List Int):Decidable (jg l):=inferInstanceAs (Decidable (_∧_))
theorem CA (l:List Int) (n:Int):jg (l++[n])↔jg l∧(1≤n∧n≤24)∧n∉l:=by
 unfold jg;rw[List.nodup_append];constructor
 ·rintro⟨⟨h1,_,h2⟩,h3⟩;exact⟨⟨h1,fun m hm=>h3 m (List.mem_append_left _ hm)⟩,h3 n (by simp),fun hm=>h2 n hm n (by simp) rfl⟩
 ·rintro⟨⟨h1,h2⟩,h3,h4⟩;refine⟨⟨h1,by simp,fun a ha b hb=>?_⟩,fun m hm=>?_⟩
  ·simp at hb;subst hb;rintro rfl;exact h4 ha
  ·rcases List.mem_append.1 hm with q|q
   ·exact h2 m q
   ·simp at q;subst q;exact h3
theorem s7 {l:List Int} {i:Nat} (h:jg l):jg (l.take i):=⟨(List.take_sublist i l).nodup h.1,fun n hn=>h.2 n (List.mem_of_mem_take hn)⟩
theorem Gk (l:List Int) (hl:l.length<1000000):VC E0 97 0 [.sl 1 (l.map eX) false] [] (RR (.s (.bool (decide (jg l)))) 0 []):=by
 refine en L0 Tryz.f97 ?_;refine⟨fun k f o c=>∃j:Nat,j≤l.length∧k=l.length - j∧jg (l.take j)∧c=0∧f=[(0,.sl 1 (l.map eX) false),(5,.sl 1 (l.map eX) false),(6,.s (.int .i64 l.length)),(7,.s (.int .i64 j))]∧o=[],⟨l.length,?_⟩,?_⟩
 ·refine⟨[],[],_,_,_,tx ?_,⟨0,Nat.zero_le _,rfl,⟨by simp,by simp⟩,rfl,rfl,rfl⟩⟩;exact Lz.int (by rw[List.length_map])
 ·rintro k f1 o1 c1 ⟨j,hj,rfl,hn,rfl,rfl,rfl⟩;refine wh ?_;refine sp ?_ ?_<;>intro h
  ·have h:j<l.length:=by have:(j:Int)<(l.length:Nat):=h
                         omega
   refine wh ?_;refine mB h ?_;refine wh ?_;have hs:=CA (l.take j) l[j];rw[←List.take_succ_eq_append_getElem h]at hs;refine⟨[],[],_,_,_,_,LX l[j],t3,?_⟩;rintro r o' c' ⟨rfl,rfl,rfl⟩;have eN:=True.intro;clear eN;cases hb:QG l[j]
   ·have hb:¬(1≤l[j]∧l[j]≤24):=of_decide_eq_false hb;refine wh ?_;refine⟨[],[],_,_,_,tx ?_,rfl,rfl,rfl⟩;exact Lz.of (aL (Eq.symm (decide_eq_false fun q=>hb (hs.1 (s7 q)).2.1)))
   ·have hb:1≤l[j]∧l[j]≤24:=of_decide_eq_true hb;refine wh ?_;refine⟨⟨om,om,by simp;omega⟩,?_⟩;refine wh ?_;refine⟨[],[],_,_,_,_,l9 (l.take j) l[j] (by simp;omega),⟨by((repeat' first|exact LF|constructor);all_goals(exact Lz.of (by simp[List.map_take]))),by((repeat' first|exact LF|constructor);all_goals(exact Lz.of (by simp[List.map_take]))),by rfl⟩,?_⟩;rintro r o' c' ⟨rfl,rfl,rfl⟩;refine wh ?_;by_cases hm:l[j]∈l.take j
    ·rw[decide_eq_true hm];refine wh ?_;refine⟨[],[],_,_,_,tx ?_,rfl,rfl,rfl⟩;exact Lz.of (aL (Eq.symm (decide_eq_false fun q=>(hs.1 (s7 q)).2.2 hm)))
    ·rw[decide_eq_false hm];refine wh ?_;refine⟨l.length - (j+1),?_,om⟩;exact⟨[],[],_,_,_,t3,⟨j+1,h,rfl,hs.2 ⟨hn,hb,hm⟩,rfl,rfl,rfl⟩⟩
  ·have WN:j=l.length:=by have:¬(j:Int)<(l.length:Nat):=h
                          omega
   subst WN;rw[List.take_length]at hn;refine wh ?_;refine⟨[],[],_,_,_,tx ?_,rfl,rfl,rfl⟩;exact Lz.of (aL (Eq.symm (decide_eq_true hn)))
def nC (c:CF):List Int:=c.nodes++(if c.join=0 then []else [c.join])
theorem Eu (c:CF):(nC c).length≤c.nodes.length+1:=by unfold nC;split<;>simp
theorem vY (c:CF) (hl:c.nodes.length<100000):VC E0 98 0 [.agg (dS c)] [] (RR (.tk 0) 1 [(0,.arr 1 true ((nC c).map eX))]):=by
 refine en L0 Tryz.f98 ?_;refine sp ?_ ?_<;>intro hj
 ·have hj:c.join=0:=hj;refine wh ?_;refine⟨[],[],_,_,_,_,sc c.nodes om,t3,cw ?_⟩;refine⟨[],[some 1],_,_,_,tx ?_,rfl,rfl,rfl⟩;exact Lz.of (by unfold nC;simp[hj])
 ·have hj:¬c.join=0:=hj;refine wh ?_;refine⟨[],[],_,_,_,_,sc c.nodes om,t3,cw ?_⟩;refine⟨by simp;omega,?_⟩;refine wh ?_;refine⟨[],[some 3],_,_,_,tx ?_,rfl,rfl,rfl⟩;exact Lz.of (by unfold nC;simp[hj])
def dX (c:CF):Prop:=(0≤c.chain∧c.chain<4)∧1≤c.bL∧(1≤c.nodes.length∧c.nodes.length≤5)∧(c.fresh=true→2≤c.nodes.length∧c.join=0)∧jg (nC c)
instance (c:CF):Decidable (dX c):=inferInstanceAs (Decidable (_∧_))
theorem LY (c:CF):VC E0 55 0 [.agg (dS c)] [] (RR (.s (.bool (decide (dX c)))) 0 []):=by
 have E3:=Eu c;refine en L0 Tryz.f55 ?_;refine sp ?_ ?_<;>intro h1
 ·have h1:c.chain<0:=h1;refine wh ?_;refine⟨[],[],_,_,_,tx ?_,rfl,rfl,rfl⟩;exact Lz.of (aL (Eq.symm (decide_eq_false fun q=>by obtain⟨⟨_,_⟩,_,⟨_,_⟩,_,_⟩:=q;omega)))
 have h1:¬c.chain<0:=h1;refine wh ?_;refine sp ?_ ?_<;>intro h2
 ·have h2:c.chain≥4:=h2;refine wh ?_;refine⟨[],[],_,_,_,tx ?_,rfl,rfl,rfl⟩;exact Lz.of (aL (Eq.symm (decide_eq_false fun q=>by obtain⟨⟨_,_⟩,_,⟨_,_⟩,_,_⟩:=q;omega)))
 have h2:¬c.chain≥4:=h2;refine wh ?_;refine sp ?_ ?_<;>intro h3
 ·have h3:c.bL<1:=h3;refine wh ?_;refine⟨[],[],_,_,_,tx ?_,rfl,rfl,rfl⟩;exact Lz.of (aL (Eq.symm (decide_eq_false fun q=>by obtain⟨⟨_,_⟩,_,⟨_,_⟩,_,_⟩:=q;omega)))
 have h3:¬c.bL<1:=h3;refine wh ?_;refine sp ?_ ?_<;>intro h4
 ·have h4:(((c.nodes.map eX).length:Nat):Int)<1:=h4;rw[List.length_map]at h4;refine wh ?_;refine⟨[],[],_,_,_,tx ?_,rfl,rfl,rfl⟩;exact Lz.of (aL (Eq.symm (decide_eq_false fun q=>by obtain⟨⟨_,_⟩,_,⟨_,_⟩,_,_⟩:=q;omega)))
 have h4:¬(((c.nodes.map eX).length:Nat):Int)<1:=h4;rw[List.length_map]at h4;refine wh ?_;refine sp ?_ ?_<;>intro h5
 ·have h5:(((c.nodes.map eX).length:Nat):Int)>5:=h5;rw[List.length_map]at h5;refine wh ?_;refine⟨[],[],_,_,_,tx ?_,rfl,rfl,rfl⟩;exact Lz.of (aL (Eq.symm (decide_eq_false fun q=>by obtain⟨⟨_,_⟩,_,⟨_,_⟩,_,_⟩:=q;omega)))
 have h5:¬(((c.nodes.map eX).length:Nat):Int)>5:=h5;rw[List.length_map]at h5;refine wh ?_;cases hf:c.fresh
 ·refine wh ?_;refine⟨[],[],_,_,_,_,vY c om,⟨by((repeat' first|exact LF|constructor);all_goals(exact Lz.of (aL hf.symm))),by((repeat' first|exact LF|constructor);all_goals(exact Lz.of (aL hf.symm))),by rfl⟩,?_⟩;rintro r o' c' ⟨rfl,rfl,rfl⟩;refine wh ?_;refine⟨[1],[],_,_,_,_,Gk (nC c) om,t3,cw ?_⟩;refine⟨[],[],_,_,_,tx ?_,rfl,rfl,rfl⟩;exact Lz.of (aL (decide_eq_decide.2 ⟨fun q=>⟨⟨om,om⟩,om,⟨om,om⟩,(fun e=>absurd (hf.symm.trans e) (by decide)),q⟩,fun q=>q.2.2.2.2⟩))
 ·refine wh ?_;refine sp ?_ ?_<;>intro h6
  ·have h6:(((c.nodes.map eX).length:Nat):Int)<2:=h6;rw[List.length_map]at h6;refine wh ?_;refine⟨[],[],_,_,_,tx ?_,rfl,rfl,rfl⟩;exact Lz.of (aL (Eq.symm (decide_eq_false fun q=>by have:=q.2.2.2.1 hf;omega)))
  have h6:¬(((c.nodes.map eX).length:Nat):Int)<2:=h6;rw[List.length_map]at h6;refine wh ?_;refine sp ?_ ?_<;>intro h7
  ·have h7:c.join≠0:=h7;refine wh ?_;refine⟨[],[],_,_,_,tx ?_,rfl,rfl,rfl⟩;exact Lz.of (aL (Eq.symm (decide_eq_false fun q=>by have:=q.2.2.2.1 hf;omega)))
  have h7:c.join=0:=Classical.not_not.1 h7;refine wh ?_;refine⟨[],[],_,_,_,_,vY c om,⟨by((repeat' first|exact LF|constructor);all_goals(exact Lz.of (aL hf.symm))),by((repeat' first|exact LF|constructor);all_goals(exact Lz.of (aL hf.symm))),by rfl⟩,?_⟩;rintro r o' c' ⟨rfl,rfl,rfl⟩;refine wh ?_;refine⟨[1],[],_,_,_,_,Gk (nC c) om,t3,cw ?_⟩;refine⟨[],[],_,_,_,tx ?_,rfl,rfl,rfl⟩;exact Lz.of (aL (decide_eq_decide.2 ⟨fun q=>⟨⟨om,om⟩,om,⟨om,om⟩,(fun e=>⟨om,h7⟩),q⟩,fun q=>q.2.2.2.2⟩))
theorem LZ (c:CF) (hn:c.nodes.length<1000000):VC E0 118 0 [.agg (dS c)] [] (RR (.agg (dS c)) 0 []):=by
 refine en L0 Tryz.f118 ?_;refine⟨[],[],_,_,_,_,sc c.nodes hn,t3,cw ?_⟩;exact⟨[2],[],_,_,_,t3,rfl,rfl,rfl⟩
@[reducible] def Ii:List TV:=[.s (.int .i64 0),.s (.int .u64 0),.sl 0 [] true,.s (.bool false),.s (.int .i64 0)]
def nD (l:List CF) (j:Nat):List (List TV):=(l.take j).map dS++List.replicate (l.length - j) Ii
theorem Ij (l:List CF) (j:Nat) (h:j≤l.length):(nD l j).length=l.length:=by unfold nD;simp;omega
theorem Ik (l:List CF) (j:Nat) (h:j<l.length):(nD l j).set j (dS l[j])=nD l (j+1):=by
 unfold nD;have e:l.length - j=(l.length - (j+1))+1:=by omega
 have hlen:((l.take j).map dS).length=j:=by rw[List.length_map,List.length_take];omega
 rw[e,List.replicate_succ,List.set_append,if_neg om,hlen,Nat.sub_self,List.take_succ_eq_append_getElem h,List.map_append,List.append_assoc];rfl
theorem Il (l:List CF) (j:Nat) (h:j<l.length):(nD l j)[j]? =some Ii:=by
 unfold nD;have e:l.length - j=(l.length - (j+1))+1:=by omega
 have hlen:((l.take j).map dS).length=j:=by rw[List.length_map,List.length_take];omega
 rw[e,List.replicate_succ,List.getElem?_append_right om,hlen,Nat.sub_self];rfl
theorem Im (l:List CF) (hl:l.length<10000) (hn:∀c∈l,c.nodes.length<1000000):VC E0 89 0 [.sl 5 (l.map dS) false] [] (RR (.tk 0) 1 [(0,.arr 5 true (l.map dS))]):=by
 refine en L0 Tryz.f89 ?_;refine⟨⟨om,om,by simp;omega⟩,?_⟩;refine wh ?_;refine⟨fun k f o c=>∃j:Nat,j≤l.length∧k=l.length - j∧c=1∧f=[(3,.tk 0),(9,.sl 5 (l.map dS) false),(10,.s (.int .i64 l.length)),(11,.s (.int .i64 j))]∧o=[(0,.arr 5 true (nD l j))],⟨l.length,?_⟩,?_⟩
 ·refine⟨[],[some 0],?_⟩
  iterate 3 constructor
  refine⟨⟨?_,?_,?_⟩,⟨0,Nat.zero_le _,rfl,rfl,rfl,rfl⟩⟩
  all_goals(repeat' first|exact LF|constructor)
  ·exact Lz.int (by rw[List.length_map])
  ·exact Lz.of (by simp[nD];exact .inr rfl)
 ·rintro k f1 o1 c1 ⟨j,hj,rfl,rfl,rfl,rfl⟩;refine wh ?_;refine sp ?_ ?_<;>intro h
  ·have h:j<l.length:=by have:(j:Int)<(l.length:Nat):=h
                         omega
   refine wh ?_;refine mB h ?_;refine wh ?_;refine⟨[],[],_,_,_,_,LZ l[j] (hn _ (List.getElem_mem h)),t3,cw ?_⟩;refine⟨⟨om,by rw[Ij l j hj];omega⟩,?_⟩;refine wh ?_;refine⟨Ii,by rw[Int.toNat_natCast];exact Il l j h,?_⟩;refine wh ?_;refine⟨l.length - (j+1),?_,om⟩;refine⟨[],[some 0],_,_,_,tx ?_,⟨j+1,h,rfl,rfl,rfl,rfl⟩⟩;exact Lz.of (by rw[Int.toNat_natCast];exact Ik l j h)
  ·have WN:j=l.length:=by have:¬(j:Int)<(l.length:Nat):=h
                          omega
   subst WN;have hc:nD l l.length=l.map dS:=by unfold nD;simp
   rw[hc];refine wh ?_;exact⟨[],[some 0],_,_,_,t3,rfl,rfl,rfl⟩
@[reducible] def Pn (r:FT):List TV:=[.s (.bool r.Ef),.s (.bool r.oN),.s (.bool r.head),.s (.bool r.tail),.s (.bool r.waits),.s (.int .i64 r.place),.s (.int .i64 r.pred),.s (.int .i64 r.succ)]
theorem vZ (c:CF) (H:dX c):VC E0 55 0 [.agg (dS c)] [] (RR (.s (.bool true)) 0 []):=by
 have h:=LY c;rw[decide_eq_true H]at h;exact h
theorem L1 (c:CF) (H:dX c):VC E0 87 0 [.agg (dS c)] [] (RR (.s (.int .i64 (jH c))) 0 []):=by
 have hn:=H.2.2.1;have hw:IntKind.i64.wrap ((((c.nodes.map eX).length:Nat):Int) - 1)=((c.nodes.length - 1:Nat):Int):=by rw[List.length_map,IntWalk.i64_in _ om];omega
 have bj:c.nodes.length - 1<c.nodes.length:=by omega
 have e:jH c=c.nodes[c.nodes.length - 1]:=by unfold jH;simp[List.getD,bj]
 rw[e];refine en L0 Tryz.f87 ?_;refine⟨[],[],_,_,_,_,vZ c H,t3,cw ?_⟩;rw[hw];refine mB bj ?_;refine wh ?_;exact⟨[],[],_,_,_,t3,rfl,rfl,rfl⟩
theorem ld (c:CF) (H:dX c) (node:Int):VC E0 47 0 [.agg (dS c),.s (.int .i64 node)] [] (RR (.agg (Pn (bT c node))) 0 []):=by
 have hn:=H.2.2.1;have ht:=L1 c H;refine en L0 Tryz.f47 ?_;refine⟨[],[],_,_,_,_,vZ c H,t3,cw ?_⟩;refine sp ?_ ?_<;>intro h0
 ·have h0:node=0:=h0;have e:bT c node=vS:=by unfold bT;rw[if_pos h0]
  rw[e];refine wh ?_;exact⟨[],[],_,_,_,t3,rfl,rfl,rfl⟩
 have h0:¬node=0:=h0;refine wh ?_;refine sp ?_ ?_<;>intro hj
 ·have hj:node=c.join:=hj;have e:bT c node=⟨false,true,false,false,true,0,jH c,0⟩:=by unfold bT;rw[if_neg h0,if_pos hj]
  rw[e];refine wh ?_;refine⟨[],[],_,_,_,_,ht,t3,cw ?_⟩;exact⟨[],[],_,_,_,t3,rfl,rfl,rfl⟩
 have hj:¬node=c.join:=hj;refine wh ?_;refine⟨[],[],_,_,_,_,yC c.nodes node om,t3,?_⟩;rintro r o' c' ⟨i,rfl,hi,rfl,rfl⟩;rcases hi with⟨Az,rfl⟩|⟨rfl,bj⟩
 ·have e:bT c node=vS:=by unfold bT;rw[if_neg h0,if_neg hj,if_neg (by rw[FV Az];omega)]
  rw[e];refine wh ?_
  repeat((first|(refine⟨fun h_=>?_,fun h_=>?_⟩)|(refine aZ (fun h_=>?_) (fun h_=>?_))|(refine aY (fun h_=>?_) (fun h_=>?_)))<;>first|(exfalso;revert h_;decide;done)|(exact absurd rfl h_)|(have eN:=True.intro;clear eN;(conv=>whnf)))
  exact⟨[],[],_,_,_,t3,rfl,rfl,rfl⟩
 have CB:bT c node=⟨true,false,decide (gI node c.nodes=0),decide (node=jH c),decide (node=jH c)&&c.fresh,(gI node c.nodes:Nat),if 0<gI node c.nodes then c.nodes.getD (gI node c.nodes - 1) 0 else 0,if decide (node=jH c)then c.join else c.nodes.getD (gI node c.nodes+1) 0⟩:=by
  unfold bT;rw[if_neg h0,if_neg hj,if_pos bj]
 have Nr:node≠jH c→gI node c.nodes+1<c.nodes.length:=fun h=>by
  rcases Nat.lt_or_ge (gI node c.nodes+1) c.nodes.length with q|q
  ·exact q
  ·exfalso;apply h;have hx:=Ci bj;unfold jH;rw[show c.nodes.length - 1=gI node c.nodes by omega];simp[List.getD,bj,hx]
 generalize hj0:gI node c.nodes=j at bj Nr CB;have hwp:IntKind.i64.wrap ((j:Int)+1)=((j+1:Nat):Int):=IntWalk.i64_in _ om;refine wh ?_;refine sp ?_ ?_<;>intro WO
 ·have WO:(j:Int)<0:=WO;omega
 refine wh ?_;refine sp ?_ ?_<;>intro hz
 ·have hz:(j:Int)=0:=hz;obtain rfl:j=0:=by omega
  refine wh ?_;refine⟨[],[],_,_,_,_,ht,t3,cw ?_⟩;refine sp ?_ ?_<;>intro ml
  ·have ml:node=jH c:=ml;have e:bT c node=⟨true,false,true,true,c.fresh,0,0,c.join⟩:=by rw[CB];simp[ml]
   rw[e];refine wh ?_;refine sp ?_ ?_<;>intro hp
   ·exact absurd hp (by decide)
   refine wh ?_;exact⟨[],[],_,_,_,t3,rfl,rfl,rfl⟩
  ·have ml:¬node=jH c:=ml;have GO:=Nr ml;have e:bT c node=⟨true,false,true,false,false,0,0,c.nodes[0+1]⟩:=by rw[CB];simp[ml,List.getD,GO]
   rw[e];refine wh ?_;refine sp ?_ ?_<;>intro hp
   ·exact absurd hp (by decide)
   refine wh ?_;rw[hwp];refine mB GO ?_;refine wh ?_;exact⟨[],[],_,_,_,t3,rfl,rfl,rfl⟩
 ·have hz:¬(j:Int)=0:=hz;have hwm:IntKind.i64.wrap ((j:Int) - 1)=((j - 1:Nat):Int):=by rw[IntWalk.i64_in _ om];omega
  have Q7:j - 1<c.nodes.length:=by omega
  have hjp:0<j:=by omega
  have hjz:j≠0:=by omega
  refine wh ?_;refine⟨[],[],_,_,_,_,ht,t3,cw ?_⟩;refine sp ?_ ?_<;>intro ml
  ·have ml:node=jH c:=ml;have e:bT c node=⟨true,false,false,true,c.fresh,(j:Nat),c.nodes[j - 1],c.join⟩:=by rw[CB];simp[ml,hjz,hjp,List.getD,Q7]
   rw[e];refine wh ?_;refine sp ?_ ?_<;>intro hp;rotate_left
   ·have hp:¬(j:Int)>0:=hp;omega
   refine wh ?_;rw[hwm];refine mB Q7 ?_;refine wh ?_;exact⟨[],[],_,_,_,t3,rfl,rfl,rfl⟩
  ·have ml:¬node=jH c:=ml;have GO:=Nr ml;have e:bT c node=⟨true,false,false,false,false,(j:Nat),c.nodes[j - 1],c.nodes[j+1]⟩:=by rw[CB];simp[ml,hjz,hjp,List.getD,Q7,GO]
   rw[e];refine wh ?_;refine sp ?_ ?_<;>intro hp;rotate_left
   ·have hp:¬(j:Int)>0:=hp;omega
   refine wh ?_;rw[hwm];refine mB Q7 ?_;refine wh ?_;rw[hwp];refine mB GO ?_;refine wh ?_;exact⟨[],[],_,_,_,t3,rfl,rfl,rfl⟩
@[reducible] def nz (r:fp):Bool:=decide (r.num≠0)
@[reducible] def pC (t:eS):List fp:=[t.r1,t.r2,t.r3,t.r4,t.r5,t.r6]
@[reducible] def gl (t:eS):List fp:=(pC t).filter nz
theorem Po (t:eS) {c:Int} (h:1≤c∧c≤6):t.row c=(pC t).getD (c - 1).toNat eO:=by
 rcases Ai h with rfl |rfl |rfl |rfl |rfl |rfl<;>rfl
theorem L2 (t:eS) {i:Nat} (h:i<6):fW t ((i+1:Nat):Int)=if((pC t).getD i eO).num=0 then(eO,false)else((pC t).getD i eO,true):=by
 unfold fW;rw[Po t (c:=((i+1:Nat):Int)) om,show(((i+1:Nat):Int) - 1).toNat=i from by omega];by_cases hz:((pC t).getD i eO).num=0
 ·rw[if_pos hz,if_pos (.inr hz)]
 ·rw[if_neg hz,if_neg (by rintro(q|q);omega;exact hz q)]
theorem L3 (t:eS) {i:Nat} (h:i<6):(pC t).take (i+1)=(pC t).take i++[(pC t).getD i eO]:=by
 rw[List.take_succ_eq_append_getElem (show i<(pC t).length from h)];simp[List.getD,h]
end Go.M
namespace Go.M
open Go
@[reducible] def iH (n:Int):List TV:=[.s (.int .u8 n)]
def cy:Nat→Nat→List Int
 |0,_=>[]
 |w+1,n=>cy w (n / 256)++[((n % 256:Nat):Int)]
theorem bF:∀w n,(cy w n).length=w
 |0,_=>rfl
 |w+1,n=>by unfold cy;rw[List.length_append,bF w];rfl
theorem yD:∀w n,cy (w+1) n=((n / 256 ^ w % 256:Nat):Int)::cy w n
 |0,n=>by simp[cy]
 |w+1,n=>by
  rw[cy,yD w (n / 256),Nat.div_div_eq_div_mul,Nat.pow_succ',List.cons_append];rfl
def aai (a b:Int):Int:=(a*256+b) % 18446744073709551616
def WQ (l:List Int):Int:=l.foldl aai 0
theorem L4 (n i:Nat) (h:i<9):JV .shr .u64 .i64 (n:Int) (IntKind.i64.wrap (8*(i:Int)))=some (.int .u64 ((n / 256 ^ i:Nat):Int)):=by
 have hw:IntKind.i64.wrap (8*(i:Int))=((8*i:Nat):Int):=by rw[IntWalk.i64_in _ om];simp
 rw[hw];show dQ (Op.shift .shr .u64 (n:Int) .i64 ((8*i:Nat):Int))=_;unfold Op.shift;rw[if_neg om,Int.toNat_natCast];have hm:min (8*i) IntKind.u64.bits=8*i∨i=8:=by
  show min (8*i) 64=_∨_;omega
 have e2:(2:Nat) ^ (8*i)=256 ^ i:=by rw[Nat.pow_mul]
 have UM:min (8*i) IntKind.u64.bits=8*i:=by
  show min (8*i) 64=_;omega
 rw[UM];show some (Value.int .u64 ((n:Int).fdiv (2 ^ (8*i))))=_
 congr 2
 rw[show((2:Int) ^ (8*i))=((256 ^ i:Nat):Int)from by rw[←e2];simp];exact(Int.ofNat_fdiv n (256 ^ i)).symm
structure Pp where
 b:List Int
 e:Int
def Pp.next (s:Pp) (n:Nat):Pp×Option (List Int):=
 if s.e≠0 then(s,none)else if s.b.length<n then(⟨[],3⟩,none)else(⟨s.b.drop n,0⟩,some (s.b.take n))
def Pp.upto (s:Pp) (w:Nat) (m:Int):Pp×Int:=
 match s.next w with
 |(s',none)=>(s',0)
 |(s',some b)=>if WQ b>m then(⟨[],4⟩,0)else(s',WQ b)
def Pp.get (s:Pp) (w:Nat):Pp×Int:=s.upto w 18446744073709551615
end Go.M
namespace Go.M
open Go Go.Proofs
set_option maxRecDepth 100000
set_option maxHeartbeats 4000000
theorem Io (l:List Int) (hl:l.length<1000000):VC E0 81 0 [.sl 1 (l.map iH) false] [] (RR (.sl 1 (l.map iH) false) 0 []):=by
 refine en L0 Tryz.f81 ?_;refine⟨fun h=>?_,?_⟩
 ·have h:l=[]:=by simpa using h
  subst h;refine wh ?_;exact⟨[],[],_,_,_,t3,rfl,rfl,rfl⟩
 ·refine wh ?_;refine⟨by simp;omega,?_⟩;refine wh ?_;exact⟨[1],[],_,_,_,t3,rfl,rfl,rfl⟩
theorem L5 (w:Nat) (h1:1≤w) (h8:w≤8):VC E0 69 0 [.s (.int .i64 w)] [] (RR (.s (.bool true)) 0 []):=by
 refine en L0 Tryz.f69 ?_;refine sp ?_ ?_<;>intro h
 ·refine wh ?_;refine sp ?_ ?_<;>intro h'
  ·refine wh ?_;exact⟨[],[],_,_,_,t3,rfl,rfl,rfl⟩
  ·exact absurd (show(w:Int)≤8 by omega) h'
 ·exact absurd (show(w:Int)≥1 by omega) h
theorem CC (w i n:Nat) (h:i<w):((List.replicate (w - i) (0:Int)++cy i n).map iH).set (w - 1 - i) (iH ((n / 256 ^ i % 256:Nat):Int))=(List.replicate (w - (i+1)) (0:Int)++cy (i+1) n).map iH:=by
 have e:w - i=(w - (i+1))+1:=by omega
 rw[←List.map_set,e,List.replicate_succ',List.append_assoc,List.set_append_right _ _ (by simp;omega),yD]
 congr 2
 rw[List.length_replicate,show w - 1 - i - (w - (i+1))=0 by omega];rfl
theorem L6 (w i n:Nat) (h:i<w):((List.replicate (w - i) (0:Int)++cy i n).map iH)[w - 1 - i]? =some (iH 0):=by
 have e:w - i=(w - (i+1))+1:=by omega
 rw[e,List.replicate_succ',List.append_assoc,List.map_append,List.getElem?_append_right (by simp;omega)];simp;rw[show w - 1 - i - (w - (i+1))=0 by omega];rfl
theorem Gl (n:Nat) (w:Nat) (h1:1≤w) (h8:w≤8):VC E0 73 0 [.s (.int .u64 n),.s (.int .i64 w)] [] (RR (.tk 0) 1 [(0,.arr 1 true ((cy w n).map iH))]):=by
 refine en L0 Tryz.f73 ?_;refine⟨⟨om,om,om⟩,?_⟩;refine wh ?_;refine⟨fun k f o c=>∃i:Nat,i≤w∧k=w - i∧c=1∧f=[(0,.s (.int .u64 n)),(1,.s (.int .i64 w)),(5,.tk 0),(10,.s (.int .i64 w)),(11,.s (.int .i64 i))]∧o=[(0,.arr 1 true ((List.replicate (w - i) 0++cy i n).map iH))],⟨w,?_⟩,?_⟩
 ·refine⟨[],[some 0],?_⟩
  iterate 3 constructor
  refine⟨⟨?_,?_,?_⟩,⟨0,Nat.zero_le _,rfl,rfl,rfl,rfl⟩⟩
  all_goals(repeat' first|exact LF|constructor)
  all_goals first|exact Lz.int (by simp)|exact Lz.of (by simp[cy];exact .inr rfl)|trace_state
 ·rintro k f1 o1 c1 ⟨i,hi,rfl,rfl,rfl,rfl⟩;refine wh ?_;refine sp ?_ ?_<;>intro h
  ·have h:i<w:=by have:(i:Int)<w:=h
                  omega
   refine wh ?_;rw[L4 n i om];refine wh ?_;have hw:IntKind.i64.wrap (IntKind.i64.wrap ((w:Int) - 1) - (i:Int))=((w - 1 - i:Nat):Int):=by
    rw[IntWalk.i64_in _ (by rw[IntWalk.i64_in _ om];omega),IntWalk.i64_in _ om];omega
   refine⟨by rw[hw];simp[bF];omega,?_⟩;refine wh ?_;refine⟨iH 0,by rw[hw,Int.toNat_natCast];exact L6 w i n h,?_⟩;refine wh ?_;refine⟨w - (i+1),?_,om⟩;refine⟨[],[some 0],?_⟩
   iterate 3 constructor
   refine⟨⟨?_,?_,?_⟩,⟨i+1,h,rfl,rfl,rfl,rfl⟩⟩
   all_goals(repeat' first|exact LF|constructor)
   all_goals first|exact Lw.of (by rw[hw,Int.toNat_natCast,←CC w i n h,IntKind.wrap_u8];simp)|exact Lz.of (by rw[hw,Int.toNat_natCast,←CC w i n h,IntKind.wrap_u8];simp)|trace_state
  ·have wF:i=w:=by have:¬(i:Int)<w:=h
                   omega
   subst wF;rw[Nat.sub_self];refine wh ?_;exact⟨[],[some 0],_,_,_,t3,rfl,rfl,rfl⟩
theorem Pq (n:Nat) (w:Nat) (h1:1≤w) (h8:w≤8) (hn:n<18446744073709551616):VC E0 71 0 [.s (.int .u64 n),.s (.int .i64 w)] [] (RR (.s (.bool (decide (n<256 ^ w)))) 0 []):=by
 refine en L0 Tryz.f71 ?_;refine sp ?_ ?_<;>intro h
 ·have h:w=8:=by have:(w:Int)=8:=h
                 omega
  subst h;refine wh ?_;refine⟨[],[],_,_,_,tx ?_,rfl,rfl,rfl⟩;exact Lz.of (aL (decide_eq_true (show n<256 ^ 8 by omega)).symm)
 ·refine wh ?_;rw[L4 n w om];refine wh ?_;refine sp ?_ ?_<;>intro h0
  ·have h0:((n / 256 ^ w:Nat):Int)=0:=h0;refine wh ?_;refine⟨[],[],_,_,_,tx ?_,rfl,rfl,rfl⟩;exact Lz.of (aL (decide_eq_true (show n<256 ^ w from(Nat.div_eq_zero_iff_lt (Nat.pow_pos (by decide))).1 om)).symm)
  ·have h0:¬((n / 256 ^ w:Nat):Int)=0:=h0;refine wh ?_;refine⟨[],[],_,_,_,tx ?_,rfl,rfl,rfl⟩;exact Lz.of (aL (decide_eq_false (fun q=>h0 (by rw[(Nat.div_eq_zero_iff_lt (Nat.pow_pos (by decide))).2 q];rfl))).symm)
structure ef where
 b:List Int
 jf:Int
 e:Int
def ef.fail (s:ef) (e:Int):ef:=if s.e=0 then⟨s.b,s.jf,e⟩else s
def ef.put (s:ef) (x:List Int):ef:=if s.e≠0 then s else if(x.length:Int)>s.jf - s.b.length then⟨s.b,s.jf,6⟩else⟨s.b++x,s.jf,0⟩
def ef.num (s:ef) (n w:Nat):ef:=if n<256 ^ w then s.put (cy w n)else s.fail 4
structure ef.ok (s:ef):Prop where
 m:0≤s.jf∧s.jf≤1048576
 l:(s.b.length:Int)≤s.jf
@[reducible] def pD (s:ef):TO:=.cells [.own (.arr 1 true (s.b.map iH)),.s (.int .i64 s.jf),.s (.int .i64 s.e)]
theorem Te (m:Nat):VC E0 34 0 [.s (.int .i64 m)] [] (RR (.ptr 0 0) 1 [(0,pD ⟨[],m,0⟩)]):=by
 refine en L0 Tryz.f34 ?_;refine⟨[],[some 0],?_⟩
 iterate 3 constructor
 refine⟨⟨?_,?_,?_⟩,rfl,rfl,rfl⟩
 all_goals(repeat' first|exact LF|constructor)
 all_goals exact Lz.int (if_neg om)
theorem v5 (s:ef) (e:Int):VC E0 70 1 [.ptr 0 0,.s (.int .i64 e)] [(0,pD s)] (RR (.dg []) 1 [(0,pD (s.fail e))]):=by
 refine en L0 Tryz.f70 ?_;refine sp ?_ ?_<;>intro h
 ·have h:s.e=0:=h;rw[show s.fail e=⟨s.b,s.jf,e⟩from if_pos h];refine wh ?_;exact⟨[],[some 0],_,_,_,t3,rfl,rfl,rfl⟩
 ·have h:¬s.e=0:=h;rw[show s.fail e=s from if_neg h];refine wh ?_;exact⟨[],[some 0],_,_,_,t3,rfl,rfl,rfl⟩
theorem L7 (s:ef) (x:List Int) (hs:s.ok) (hx:s.b.length+x.length≤1000000):VC E0 72 1 [.ptr 0 0,.sl 1 (x.map iH) false] [(0,pD s)] (RR (.dg []) 1 [(0,pD (s.put x))]):=by
 obtain⟨⟨m0,m1⟩,hl⟩:=hs;refine en L0 Tryz.f72 ?_;refine sp ?_ ?_<;>intro h
 ·have h:s.e≠0:=h;rw[show s.put x=s from if_pos h];refine wh ?_;exact⟨[],[some 0],_,_,_,t3,rfl,rfl,rfl⟩
 ·have h:¬s.e≠0:=h;have h0:s.e=0:=by omega
  refine wh ?_;refine sp ?_ ?_<;>intro h2
  ·have h2:(x.length:Int)>s.jf - s.b.length:=by
    have:(((x.map iH).length:Nat):Int)>IntKind.i64.wrap (s.jf - (((s.b.map iH).length:Nat):Int)):=h2;rw[List.length_map,List.length_map,IntWalk.i64_in _ om]at this;exact this
   rw[show s.put x=s.fail 6 from by unfold ef.put ef.fail;rw[if_neg h,if_pos h2,if_pos h0]];refine wh ?_;refine⟨[],[some 0],_,_,_,_,v5 s 6,t3,cw ?_⟩;exact⟨[],[some 0],_,_,_,t3,rfl,rfl,rfl⟩
  ·have h2:¬(x.length:Int)>s.jf - s.b.length:=by
    have:¬(((x.map iH).length:Nat):Int)>IntKind.i64.wrap (s.jf - (((s.b.map iH).length:Nat):Int)):=h2;rw[List.length_map,List.length_map,IntWalk.i64_in _ om]at this;exact this
   rw[show s.put x=⟨s.b++x,s.jf,0⟩from by unfold ef.put;rw[if_neg h,if_neg h2]];refine wh ?_;refine⟨by simp;omega,?_⟩;refine wh ?_;refine⟨[],[some 0],?_⟩
   iterate 3 constructor
   refine⟨⟨?_,?_,?_⟩,rfl,rfl,rfl⟩
   all_goals(repeat' first|exact LF|constructor)
   all_goals first|exact Lz.int h0|exact Lw.of (by simp)|exact Lz.of (by simp)|trace_state
theorem Tf (s:ef) (n w:Nat) (hs:s.ok) (hx:s.b.length≤900000) (h1:1≤w) (h8:w≤8) (hn:n<18446744073709551616):VC E0 35 1 [.ptr 0 0,.s (.int .u64 n),.s (.int .i64 w)] [(0,pD s)] (RR (.dg []) 1 [(0,pD (s.num n w))]):=by
 have hf:=Pq n w h1 h8 hn;refine en L0 Tryz.f35 ?_;refine⟨[],[],_,_,_,_,L5 w h1 h8,t3,cw ?_⟩;by_cases h:n<256 ^ w
 ·rw[show s.num n w=s.put (cy w n)from if_pos h];rw[decide_eq_true h]at hf;refine⟨[],[],_,_,_,_,hf,t3,cw ?_⟩;refine⟨[],[],_,_,_,_,Gl n w h1 h8,t3,cw ?_⟩;refine⟨[1],[some 0],_,_,_,_,L7 s (cy w n) hs (by rw[bF];omega),t3,cw ?_⟩;exact⟨[],[some 0],_,_,_,t3,rfl,rfl,rfl⟩
 ·rw[show s.num n w=s.fail 4 from if_neg h];rw[decide_eq_false h]at hf;refine⟨[],[],_,_,_,_,hf,t3,cw ?_⟩;refine⟨[],[some 0],_,_,_,_,v5 s 4,t3,cw ?_⟩;exact⟨[],[some 0],_,_,_,t3,rfl,rfl,rfl⟩
theorem Pr (s:ef) (hs:s.ok) (hx:s.b.length≤900000):VC E0 40 1 [.ptr 0 0] [(0,pD s)] (RR (.dg [.sl 1 ((if s.e=0 then s.b else []).map iH) false,.s (.int .i64 s.e)]) 1 []):=by
 obtain⟨⟨m0,m1⟩,hl⟩:=hs;refine en L0 Tryz.f40 ?_;refine sp ?_ ?_<;>intro h
 ·have h:s.e≠0:=h;rw[if_neg h];refine wh ?_;exact⟨[],[some 0],_,_,_,t3,rfl,rfl,rfl⟩
 ·have h:s.e=0:=Classical.not_not.1 h;rw[if_pos h];refine wh ?_;refine⟨[1],[],_,_,_,_,Io s.b om,t3,cw ?_⟩;refine⟨[],[some 0],?_⟩
  iterate 3 constructor
  refine⟨⟨?_,?_,?_⟩,rfl,rfl,rfl⟩
  all_goals(repeat' first|exact LF|constructor)
  all_goals exact Lz.int h.symm
theorem se (l:List Int):(bA l).length=l.length:=by unfold bA;rw[List.length_map]
theorem Ip (a b:List Int):bA a++bA b=bA (a++b):=by unfold bA;rw[List.map_append]
theorem Iq {l:List Int} (h:bA l=[]):l=[]:=by unfold bA at h;simpa using h
structure Room (s:ef) (k:Nat):Prop where
 e:s.e=0
 m:s.jf=1048576
 l:s.b.length+k≤800000
@[reducible] def ef.add (s:ef) (x:List Int):ef:=⟨s.b++x,s.jf,0⟩
theorem Room.ok {s:ef} {k:Nat} (h:Room s k):s.ok:=⟨by rw[h.m];decide,by have:=h.l;rw[h.m];omega⟩
theorem Room.add {s:ef} {k:Nat} (h:Room s k) {x:List Int} {j:Nat} (hx:x.length+j≤k):Room (s.add x) j:=⟨rfl,h.m,by have:=h.l;show(s.b++x).length+j≤_;rw[List.length_append];omega⟩
theorem Room.put {s:ef} {k:Nat} (h:Room s k) {x:List Int} (hx:x.length≤k):s.put x=s.add x:=by
 have:=h.l;unfold ef.put;rw[if_neg (not_not_intro h.e),if_neg (by rw[h.m];omega)]
theorem Room.num {s:ef} {k:Nat} (h:Room s k) {n w:Nat} (hn:n<256 ^ w) (hw:w≤k):s.num n w=s.add (cy w n):=by
 unfold ef.num;rw[if_pos hn,h.put (by rw[bF];exact hw)]
theorem gM (s:ef) (n:Int) (w k:Nat) (h:Room s k) (hw:w≤k) (h1:1≤w) (h8:w≤8) (h0:0≤n) (hm:n≤18446744073709551615) (hn:n.toNat<256 ^ w):VC E0 35 1 [.ptr 0 0,.s (.int .u64 n),.s (.int .i64 w)] [(0,pD s)] (RR (.dg []) 1 [(0,pD (s.add (cy w n.toNat)))]):=by
 have:=Tf s n.toNat w h.ok (by have:=h.l;omega) h1 h8 om;rw[h.num hn hw,Int.toNat_of_nonneg h0]at this;exact this
theorem L8 (n:Nat) (w:Nat) (h1:1≤w) (h8:w≤8):VC E0 73 0 [.s (.int .u64 n),.s (.int .i64 w)] [] (RR (.sl 1 (bA (cy w n)) false) 0 []):=by
 refine VC.told (Gl n w h1 h8) ?_;rintro r o' c' ⟨rfl,rfl,rfl⟩;exact⟨[0],[],_,_,_,t3,rfl,rfl,rfl⟩
theorem Ps (n:Nat) (h0:0<n) (hn:n<1000000):VC E0 115 0 [.sl 0 [] true,.s (.int .i64 n)] [] (RR (.pv 0 0) 1 [(0,.arr 1 true (bA (List.replicate n 0)))]):=by
 refine en L0 Tryz.f115 ?_;refine sp ?_ ?_<;>intro h
 ·have h:(n:Int)<0:=h;omega
 ·refine wh ?_;have hw:IntKind.i64.wrap ((n:Int) - IntKind.i64.wrap (0 - ((([]:List (List TV)).length:Nat):Int)))=(n:Int):=by
   rw[show IntKind.i64.wrap (0 - ((([]:List (List TV)).length:Nat):Int))=0 from rfl,IntWalk.i64_in _ om];omega
  rw[hw];refine sp ?_ ?_<;>intro h2
  ·refine wh ?_;refine⟨by decide,?_⟩;refine wh ?_;refine⟨om,?_⟩;refine wh ?_;refine⟨⟨by simp,by simp,by simp⟩,.inr ?_⟩;refine wh ?_;refine⟨[],[some 0],?_⟩
   iterate 3 constructor
   refine⟨⟨?_,?_,?_⟩,rfl,rfl,rfl⟩
   all_goals(repeat' first|exact LF|constructor)
   all_goals first|exact Lz.of rfl |exact Lz.of (by simp[bA,Rx])|trace_state
  ·exact absurd (show(0:Int)<(n:Int) by omega) h2
theorem Ir (a b:List Int) (ha:a≠[]) (hn:a.length+b.length<1000000):VC E0 80 0 [.sl 1 [[.sl 1 (bA a) false],[.sl 1 (bA b) false]] false] [] (RR (.sl 1 (bA (a++b)) false) 0 []):=by
 have la:=se a;have lb:=se b;have ha0:0<a.length:=List.length_pos_iff.2 ha;refine VC.dp L0 (show E0.func 80=some Tryz.f80 by kernel_rfl) (fun _ _=>rfl) rfl rfl [999999] ?_;refine wh ?_;refine sp ?_ ?_<;>intro t0
 ·refine wh ?_;refine⟨_,⟨by decide,rfl⟩,?_⟩;refine wh ?_;rw[show IntKind.i64.wrap (0+(((bA a).length:Nat):Int))=(a.length:Int)from by rw[la,IntWalk.i64_in _ om];omega];refine sp ?_ ?_<;>intro n0
  ·have n0:(a.length:Int)<0:=n0;omega
  ·refine wh ?_;refine sp ?_ ?_<;>intro t1
   ·refine wh ?_;refine⟨_,⟨by decide,rfl⟩,?_⟩;refine wh ?_;rw[show IntKind.i64.wrap ((a.length:Int)+(((bA b).length:Nat):Int))=((a.length+b.length:Nat):Int)from by rw[lb,IntWalk.i64_in _ om];omega];refine sp ?_ ?_<;>intro n1
    ·have n1:((a.length+b.length:Nat):Int)<0:=n1;omega
    ·refine wh ?_;refine sp ?_ ?_<;>intro t2
     ·exact absurd t2 (show¬(IntKind.i64.wrap (IntKind.i64.wrap (0+1)+1)<(2:Int)) by decide)
     ·refine wh ?_;refine⟨[],[],_,_,_,_,Ps (a.length+b.length) om om,t3,cw ?_⟩;refine sp ?_ ?_<;>intro u0
      ·refine wh ?_;refine⟨_,⟨by decide,rfl⟩,?_⟩;refine wh ?_;refine⟨⟨Nat.zero_le _,by rw[la];omega,fun e=>ha (Iq e)⟩,?_⟩;refine wh ?_;refine sp ?_ ?_<;>intro u1
       ·refine wh ?_;refine⟨_,⟨by decide,rfl⟩,?_⟩;refine wh ?_;refine⟨by rw[List.take_zero,List.nil_append,la,lb];omega,?_⟩;refine wh ?_;refine sp ?_ ?_<;>intro u2
        ·exact absurd u2 (show¬(IntKind.i64.wrap (IntKind.i64.wrap (0+1)+1)<(2:Int)) by decide)
        ·refine wh ?_;refine⟨[2],[],?_⟩
         iterate 3 constructor
         refine⟨⟨?_,?_,?_⟩,rfl,rfl,rfl⟩
         all_goals(repeat' first|exact LF|constructor)
         all_goals exact Lz.of (by rw[List.take_zero,List.nil_append,Ip])
       ·exact absurd (show IntKind.i64.wrap (0+1)<(2:Int) by decide) u1
      ·exact absurd (show(0:Int)<(2:Int) by decide) u0
   ·exact absurd (show IntKind.i64.wrap (0+1)<(2:Int) by decide) t1
 ·exact absurd (show(0:Int)<(2:Int) by decide) t0
theorem Ev (s:ef) (d:List Int) (k:Nat) (h:Room s k) (hd:d.length+2≤k) (h2:d.length≤65535):VC E0 39 1 [.ptr 0 0,.sl 1 (bA d) false] [(0,pD s)] (RR (.dg []) 1 [(0,pD (s.add (cy 2 d.length++d)))]):=by
 have hl:=se d;have hp:=L7 s (cy 2 d.length++d) h.ok (by have:=h.l;rw[List.length_append,bF];omega);rw[h.put (by rw[List.length_append,bF];omega)]at hp;refine en L0 Tryz.f39 ?_;refine sp ?_ ?_<;>intro h0
 ·have h0:(65535:Int)<(((bA d).length:Nat):Int):=h0;rw[hl]at h0;omega
 ·refine wh ?_;rw[hl,show IntKind.u64.wrap ((d.length:Nat):Int)=((d.length:Nat):Int)from IntWalk.u64_in _ om];refine⟨[],[],_,_,_,_,L8 d.length 2 (by decide) (by decide),t3,cw ?_⟩;refine⟨[1],[],_,_,_,_,Ir (cy 2 d.length) d (fun e=>by have:=congrArg List.length e;rw[bF]at this;cases this) (by rw[bF];omega),t3,cw ?_⟩;refine⟨[],[some 0],_,_,_,_,hp,t3,cw ?_⟩;exact⟨[],[some 0],_,_,_,t3,rfl,rfl,rfl⟩
end Go.M
