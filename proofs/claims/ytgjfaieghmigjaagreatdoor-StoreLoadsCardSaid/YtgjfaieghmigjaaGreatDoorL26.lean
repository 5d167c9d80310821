/-
  Part 26 of the library that the proof leans on.
-/
import Derived.Test.YtgjfaieghmigjaaGreatDoorL25
namespace Go.M
open Go Go.Proofs
set_option maxRecDepth 100000
set_option maxHeartbeats 4000000
def kindB (k:Int):Bool:=decide (k=2)||decide (k=3)
def chkU (u:UpR):Int:=if kindB u.kind then(if 2048<u.data.length then 6 else if okU u then 0 else 4)else 1
structure UOk (u:UpR):Prop where
 seq:0≤u.seq∧u.seq≤18446744073709551615
 num:0≤u.num∧u.num≤18446744073709551615
 ver:0≤u.ver∧u.ver≤18446744073709551615
 key:0≤u.key∧u.key≤4294967295
def outC (u:UpR) (ver:Int) (room:Bool):Int×Int×Bool:=
 if kindB u.kind then(if u.kind=3∧u.ver≠ver then(11,ver,false)else if(ver=0∧room=false)∨ver=18446744073709551615 then(9,ver,false)else(0,ver+1,true))else(1,ver,false)
@[reducible] def encOut (q:Int×Int×Bool):TV:=.tup [.s (.int .i64 q.1),.s (.int .u64 q.2.1),.s (.bool q.2.2)]
end Go.M
namespace Go.M
open Go Go.Proofs
set_option maxRecDepth 100000
set_option maxHeartbeats 4000000
structure Vs where
 ver:Int
 seq:Int
 data:List Int
@[reducible] def encV (v:Vs):List TV:=[.s (.int .u64 v.ver),.s (.int .u64 v.seq),.sl 1 (encU8 v.data) false]
theorem clone_ok (ns:List Int) (hl:ns.length<1000000):VC EZ 116 0 [.sl 1 (encU8 ns) false] [] (RR (.sl 1 (encU8 ns) false) 0 []):=by
 refine VC.enterR LZ (show EZ.func 116=some Tryz.f116 by kernel_rfl) (fun _ _=>rfl) rfl rfl [] ?_
 conv=>whnf
 refine⟨fun h0=>?_,?_⟩
 ·conv=>whnf
  refine⟨[],[],?_⟩
  iterate 3 constructor
  refine⟨⟨?_,?_,?_⟩,rfl,rfl,rfl⟩
  all_goals(repeat' first|exact LF|constructor)
  exact Lz.of h0.symm
 ·conv=>whnf
  refine⟨by simp[encU8];omega,?_⟩
  conv=>whnf
  refine⟨[1],[],?_⟩
  iterate 3 constructor
  refine⟨⟨?_,?_,?_⟩,rfl,rfl,rfl⟩
  all_goals(repeat' first|exact LF|constructor)
  all_goals exact Lz.of rfl
end Go.M
namespace Go.M
open Go Go.Proofs
set_option maxRecDepth 100000
set_option maxHeartbeats 4000000
@[reducible] def zeroVs:Vs:=⟨0,0,[]⟩
@[reducible] def blkT (vs:List Vs):TO:=.cells [.own (.arr 3 true (vs.map encV))]
@[reducible] def stB (vs:List Vs):Ob:=[(0,blkT vs)]
structure VOk (v:Vs):Prop where
 ver:0≤v.ver∧v.ver≤18446744073709551615
 seq:0≤v.seq∧v.seq≤18446744073709551615
 len:v.data.length≤2048
theorem bnew_ok:VC EZ 114 0 [] [] (RR (.ptr 0 0) 1 (stB [])):=by
 refine VC.enterR LZ (show EZ.func 114=some Tryz.f114 by kernel_rfl) (fun _ _=>rfl) rfl rfl [] ?_
 conv=>whnf
 exact⟨[],[some 0],_,_,_,t3,rfl,rfl,rfl⟩
theorem own_ok (v:Vs) (hl:v.data.length<1000000):VC EZ 148 0 [.agg (encV v)] [] (RR (.agg (encV v)) 0 []):=by
 refine VC.enterR LZ (show EZ.func 148=some Tryz.f148 by kernel_rfl) (fun _ _=>rfl) rfl rfl [] ?_
 conv=>whnf
 refine⟨[],[],_,_,_,_,clone_ok v.data hl,t3,cR ?_⟩
 conv=>whnf
 exact⟨[],[],_,_,_,t3,rfl,rfl,rfl⟩
theorem blen_ok (vs:List Vs):VC EZ 124 1 [.ptr 0 0] (stB vs) (RR (.s (.int .i64 vs.length)) 1 (stB vs)):=by
 refine VC.enterR LZ (show EZ.func 124=some Tryz.f124 by kernel_rfl) (fun _ _=>rfl) rfl rfl [] ?_
 conv=>whnf
 refine⟨[],[some 0],?_⟩
 iterate 3 constructor
 refine⟨⟨?_,?_,?_⟩,rfl,rfl,rfl⟩
 all_goals(repeat' first|exact LF|constructor)
 all_goals exact Lz.int (by simp)
def atV (vs:List Vs) (i:Int):Vs:=if 0≤i then vs.getD i.toNat zeroVs else zeroVs
theorem atV_in {vs:List Vs} {j:Nat} (h:j<vs.length):atV vs j=vs[j]:=by
 unfold atV;rw[if_pos (by omega)];simp[List.getD,h]
theorem atV_out {vs:List Vs} {i:Int} (h:i<0∨vs.length≤i):atV vs i=zeroVs:=by
 unfold atV
 split
 ·rw[List.getD,List.getElem?_eq_none (by omega)];rfl
 ·rfl
theorem bat_out (vs:List Vs) (i:Int) (h:i<0∨vs.length≤i):VC EZ 123 1 [.ptr 0 0,.s (.int .i64 i)] (stB vs) (RR (.agg (encV zeroVs)) 1 (stB vs)):=by
 refine VC.enterR LZ (show EZ.func 123=some Tryz.f123 by kernel_rfl) (fun _ _=>rfl) rfl rfl [] ?_
 conv=>whnf
 (first|refine⟨?_,?_⟩|refine nsplit ?_ ?_|refine bsplit ?_ ?_)<;>intro h0<;>have hz_:=True.intro<;>clear hz_
 ·conv=>whnf
  exact⟨[],[some 0],_,_,_,t3,rfl,rfl,rfl⟩
 ·have h0:¬i<0:=h0
  conv=>whnf
  (first|refine⟨?_,?_⟩|refine nsplit ?_ ?_|refine bsplit ?_ ?_)<;>intro h1<;>have hz_:=True.intro<;>clear hz_
  ·conv=>whnf
   exact⟨[],[some 0],_,_,_,t3,rfl,rfl,rfl⟩
  ·have h1:¬i≥(((vs.map encV).length:Nat):Int):=h1
   rw[List.length_map]at h1
   omega
theorem bat_in (vs:List Vs) (j:Nat) (h:j<vs.length) (hl:∀v∈vs,VOk v):VC EZ 123 1 [.ptr 0 0,.s (.int .i64 j)] (stB vs) (RR (.agg (encV vs[j])) 1 (stB vs)):=by
 have hv:=hl _ (List.getElem_mem h)
 refine VC.enterR LZ (show EZ.func 123=some Tryz.f123 by kernel_rfl) (fun _ _=>rfl) rfl rfl [] ?_
 conv=>whnf
 (first|refine⟨?_,?_⟩|refine nsplit ?_ ?_|refine bsplit ?_ ?_)<;>intro h0<;>have hz_:=True.intro<;>clear hz_
 ·have h0:(j:Int)<0:=h0
  omega
 ·conv=>whnf
  (first|refine⟨?_,?_⟩|refine nsplit ?_ ?_|refine bsplit ?_ ?_)<;>intro h1<;>have hz_:=True.intro<;>clear hz_
  ·have h1:(j:Int)≥(((vs.map encV).length:Nat):Int):=h1
   rw[List.length_map]at h1
   omega
  ·conv=>whnf
   refine⟨by simp;omega,?_⟩
   conv=>whnf
   refine⟨encV vs[j],by simp[h],?_⟩
   conv=>whnf
   refine⟨[1],[],_,_,_,_,own_ok vs[j] (by have:=hv.len;omega),t3,cR ?_⟩
   conv=>whnf
   exact⟨[],[some 0],_,_,_,t3,rfl,rfl,rfl⟩
def getV (vs:List Vs) (i:Int):Vs:=atV vs i
theorem bat_ok (vs:List Vs) (i:Int) (hl:∀v∈vs,VOk v):VC EZ 123 1 [.ptr 0 0,.s (.int .i64 i)] (stB vs) (RR (.agg (encV (atV vs i))) 1 (stB vs)):=by
 by_cases h:0≤i∧i<vs.length
 ·obtain⟨j,rfl⟩:∃j:Nat,i=j:=⟨i.toNat,by omega⟩
  rw[atV_in (j:=j) (by omega)]
  exact bat_in vs j (by omega) hl
 ·rw[atV_out (by omega)]
  exact bat_out vs i (by omega)
@[reducible] def lastV (vs:List Vs):Vs:=atV vs ((vs.length:Int) - 1)
theorem blast_ok (vs:List Vs) (hl:∀v∈vs,VOk v) (hn:vs.length<1000000):VC EZ 82 1 [.ptr 0 0] (stB vs) (RR (.agg (encV (lastV vs))) 1 (stB vs)):=by
 refine VC.enterR LZ (show EZ.func 82=some Tryz.f82 by kernel_rfl) (fun _ _=>rfl) rfl rfl [] ?_
 conv=>whnf
 refine⟨[],[some 0],_,_,_,_,blen_ok vs,t3,cR ?_⟩
 conv=>whnf
 rw[show IntKind.i64.wrap ((vs.length:Int) - 1)=(vs.length:Int) - 1 from IntWalk.i64_in _ (by omega)]
 refine⟨[],[some 0],_,_,_,_,bat_ok vs ((vs.length:Int) - 1) hl,t3,cR ?_⟩
 conv=>whnf
 exact⟨[],[some 0],_,_,_,t3,rfl,rfl,rfl⟩
def putE (vs:List Vs) (v:Vs):Int:=
 if 2048<v.data.length then 6 else if v.ver=0∨v.seq=0 then 1 else if 0<vs.length∧(v.ver - 1≠(lastV vs).ver∨v.seq≤(lastV vs).seq)then 12 else 0
def putB (vs:List Vs) (v:Vs):List Vs:=if putE vs v=0 then vs++[v]else vs
theorem two_ends (vs:List Vs):vs=[]∨∃ws w,vs=ws++[w]:=by
 rcases List.eq_nil_or_concat vs with h|⟨ws,w,h⟩
 ·exact .inl h
 ·exact .inr ⟨ws,w,by simpa using h⟩
theorem lastV_end (ws:List Vs) (w:Vs):lastV (ws++[w])=w:=by
 show atV (ws++[w]) _=w
 rw[show(((ws++[w]).length:Nat):Int) - 1=((ws.length:Nat):Int)from by simp,atV_in (by simp)]
 simp
theorem bput_ok (vs:List Vs) (v:Vs) (hv:0≤v.ver∧v.ver≤18446744073709551615) (hn:vs.length<100000):VC EZ 115 1 [.ptr 0 0,.agg (encV v)] (stB vs) (RR (.s (.int .i64 (putE vs v))) 1 (stB (putB vs v))):=by
 refine VC.enterR LZ (show EZ.func 115=some Tryz.f115 by kernel_rfl) (fun _ _=>rfl) rfl rfl [] ?_
 conv=>whnf
 (first|refine⟨?_,?_⟩|refine nsplit ?_ ?_|refine bsplit ?_ ?_)<;>intro h0<;>have hz_:=True.intro<;>clear hz_
 ·have h0:2048<v.data.length:=by simp[encU8]at h0;omega
  rw[show putB vs v=vs from by simp[putB,putE,h0]]
  conv=>whnf
  refine⟨[],[some 0],?_⟩
  iterate 3 constructor
  refine⟨⟨?_,?_,?_⟩,rfl,rfl,rfl⟩
  all_goals(repeat' first|exact LF|constructor)
  exact Lz.int (by simp[putE,h0])
 ·have h0:¬2048<v.data.length:=by simp[encU8]at h0;omega
  conv=>whnf
  by_cases h1:v.ver=0∨v.seq=0
  ·rw[show putB vs v=vs from by simp[putB,putE,h0,h1]]
   repeat'(first|((first|(refine⟨fun h=>?_,fun h=>?_⟩)|(refine nsplit (fun h=>?_) (fun h=>?_))|(refine bsplit (fun h=>?_) (fun h=>?_)))<;>((conv=>whnf)<;>repeat(with_reducible refine D1 ?_)<;>conv=>whnf)))
   all_goals first|(exfalso;omega)|skip
   all_goals
    refine⟨[],[some 0],?_⟩
    iterate 3 constructor
    refine⟨⟨?_,?_,?_⟩,rfl,rfl,rfl⟩
    all_goals(repeat' first|exact LF|constructor)
    exact Lz.int (by simp[putE,h0,h1])
  ·obtain⟨h1,h2⟩:=not_or.1 h1
   (first|refine⟨?_,?_⟩|refine nsplit ?_ ?_|refine bsplit ?_ ?_)<;>intro h3<;>have hz_:=True.intro<;>clear hz_
   ·exact absurd h3 h1
   ·conv=>whnf
    (first|refine⟨?_,?_⟩|refine nsplit ?_ ?_|refine bsplit ?_ ?_)<;>intro h4<;>have hz_:=True.intro<;>clear hz_
    ·exact absurd h4 h2
    ·((conv=>whnf)<;>repeat(with_reducible refine D1 ?_)<;>conv=>whnf)
     obtain rfl |⟨ws,w,rfl⟩:=two_ends vs
     ·(first|refine⟨?_,?_⟩|refine nsplit ?_ ?_|refine bsplit ?_ ?_)<;>intro h5<;>have hz_:=True.intro<;>clear hz_
      ·exact absurd h5 (by simp)
      ·rw[show putB [] v=[]++[v]from by simp[putB,putE,h0,h1,h2]]
       ((conv=>whnf)<;>repeat(with_reducible refine D1 ?_)<;>conv=>whnf)
       refine⟨[],[],_,_,_,_,own_ok v (by omega),t3,cR ?_⟩
       conv=>whnf
       refine⟨by simp,?_⟩
       ((conv=>whnf)<;>repeat(with_reducible refine D1 ?_)<;>conv=>whnf)
       refine⟨[],[some 0],?_⟩
       iterate 3 constructor
       refine⟨⟨?_,?_,?_⟩,rfl,rfl,rfl⟩
       all_goals(repeat' first|exact LF|constructor)
       all_goals exact Lz.int (by simp[putE,h0,h1,h2])
     ·(first|refine⟨?_,?_⟩|refine nsplit ?_ ?_|refine bsplit ?_ ?_)<;>intro h5<;>have hz_:=True.intro<;>clear hz_
      ·have hn:ws.length+1<100000:=by simpa using hn
       have hw:IntKind.i64.wrap ((((ws++[w]).map encV).length:Int) - 1)=((ws.length:Nat):Int):=by rw[IntWalk.i64_in _ (by simp;omega)];simp
       have hs:IntKind.u64.wrap (v.ver - 1)=v.ver - 1:=IntWalk.u64_in _ (by omega)
       have hx:((ws++[w]).map encV)[(IntKind.i64.wrap ((((ws++[w]).map encV).length:Int) - 1)).toNat]? =some (encV w):=by rw[hw];simp
       conv=>whnf
       refine⟨by rw[hw];simp;omega,?_⟩
       conv=>whnf
       refine⟨encV w,hx,?_⟩
       conv=>whnf
       (first|refine⟨?_,?_⟩|refine nsplit ?_ ?_|refine bsplit ?_ ?_)<;>intro h6<;>have hz_:=True.intro<;>clear hz_
       ·have h6:v.ver - 1≠w.ver:=by rw[←hs];exact h6
        rw[show putB (ws++[w]) v=ws++[w]from by simp[putB,putE,h0,h1,h2,lastV_end,h6]]
        ((conv=>whnf)<;>repeat(with_reducible refine D1 ?_)<;>conv=>whnf)
        refine⟨[],[some 0],?_⟩
        iterate 3 constructor
        refine⟨⟨?_,?_,?_⟩,rfl,rfl,rfl⟩
        all_goals(repeat' first|exact LF|constructor)
        exact Lz.int (by simp[putE,h0,h1,h2,lastV_end,h6])
       ·have h6:v.ver - 1=w.ver:=by rw[←hs];exact Decidable.not_not.1 h6
        conv=>whnf
        refine⟨by rw[hw];simp;omega,?_⟩
        conv=>whnf
        refine⟨encV w,hx,?_⟩
        conv=>whnf
        (first|refine⟨?_,?_⟩|refine nsplit ?_ ?_|refine bsplit ?_ ?_)<;>intro h7<;>have hz_:=True.intro<;>clear hz_
        ·have h7:v.seq≤w.seq:=h7
         rw[show putB (ws++[w]) v=ws++[w]from by simp[putB,putE,h0,h1,h2,lastV_end,h7]]
         ((conv=>whnf)<;>repeat(with_reducible refine D1 ?_)<;>conv=>whnf)
         refine⟨[],[some 0],?_⟩
         iterate 3 constructor
         refine⟨⟨?_,?_,?_⟩,rfl,rfl,rfl⟩
         all_goals(repeat' first|exact LF|constructor)
         exact Lz.int (by simp[putE,h0,h1,h2,lastV_end,h7])
        ·have h7:¬v.seq≤w.seq:=h7
         rw[show putB (ws++[w]) v=ws++[w]++[v]from by simp[putB,putE,h0,h1,h2,lastV_end,h6,h7]]
         ((conv=>whnf)<;>repeat(with_reducible refine D1 ?_)<;>conv=>whnf)
         refine⟨[],[],_,_,_,_,own_ok v (by omega),t3,cR ?_⟩
         conv=>whnf
         refine⟨by simp;omega,?_⟩
         ((conv=>whnf)<;>repeat(with_reducible refine D1 ?_)<;>conv=>whnf)
         refine⟨[],[some 0],?_⟩
         iterate 3 constructor
         refine⟨⟨?_,?_,?_⟩,rfl,rfl,rfl⟩
         all_goals(repeat' first|exact LF|constructor)
         ·exact Lz.int (by simp[putE,h0,h1,h2,lastV_end,h6,h7])
         ·exact Lz.of (by simp)
      ·exact absurd (show(0:Int)<((((ws++[w]).map encV).length:Nat):Int) by simp) h5
end Go.M
namespace Go.M
open Go Go.Proofs
set_option maxRecDepth 100000
set_option maxHeartbeats 4000000
theorem mid_eq (i j:Nat) (h:i<j) (hj:j<1000000):IntKind.i64.wrap (Int.fdiv (IntKind.u64.wrap (IntKind.i64.wrap ((i:Int)+j))) (2 ^ min (Int.toNat 1) IntKind.u64.bits))=(((i+j) / 2:Nat):Int):=by
 rw[IntWalk.i64_in ((i:Int)+j) (by omega),IntWalk.u64_in _ (by omega)]
 rw[show(2:Int) ^ min (Int.toNat 1) IntKind.u64.bits=2 from by decide]
 rw[Int.fdiv_eq_ediv_of_nonneg _ (by decide),IntWalk.i64_in _ (by omega)]
 omega
def srch (p:Nat→Bool) (i j:Nat):Nat:=if h:i<j then(if p ((i+j) / 2)then srch p i ((i+j) / 2)else srch p ((i+j) / 2+1) j)else i
termination_by j - i
theorem srch_t {p:Nat→Bool} {i j:Nat} (h:i<j) (hp:p ((i+j) / 2)=true):srch p i j=srch p i ((i+j) / 2):=by
 rw[srch,dif_pos h,if_pos hp]
theorem srch_f {p:Nat→Bool} {i j:Nat} (h:i<j) (hp:p ((i+j) / 2)=false):srch p i j=srch p ((i+j) / 2+1) j:=by
 rw[srch,dif_pos h,if_neg (by rw[hp];exact Bool.false_ne_true)]
theorem srch_n {p:Nat→Bool} {i j:Nat} (h:¬i<j):srch p i j=i:=by
 rw[srch,dif_neg h]
theorem srch_eq (p:Nat→Bool) (n m:Nat) (h0:∀k<m,p k=false) (h1:∀k,m≤k→k<n→p k=true) (i j:Nat):i≤m→m≤j→j≤n→srch p i j=m:=by
 induction i,j using srch.induct (p:=p)with
 |case1 i j h hp ih=>
  rw[srch_t h hp]
  intro hi hj hn
  refine ih hi ?_ (by omega)
  rcases Nat.lt_or_ge ((i+j) / 2) m with q|q
  ·rw[h0 _ q]at hp;cases hp
  ·exact q
 |case2 i j h hp ih=>
  rw[srch_f h (by simpa using hp)]
  intro hi hj hn
  refine ih ?_ hj hn
  rcases Nat.lt_or_ge ((i+j) / 2) m with q|q
  ·omega
  ·exact absurd (h1 _ q (by omega)) hp
 |case3 i j h=>rw[srch_n h];omega
@[reducible] def stS (vs:List Vs) (d:Int):Ob:=[(0,blkT vs),(1,.cells [.ptr 0 0]),(2,.cells [.s (.int .u64 d)])]
theorem search_ok (g:Nat) (vs:List Vs) (d:Int) (p:Nat→Bool) (n:Nat) (hn:n<1000000)
 (hg:∀k<n,VC EZ g 3 [.s (.int .i64 k),.ptr 1 0,.ptr 2 0] (stS vs d) (RR (.s (.bool (p k))) 3 (stS vs d))):
 VC EZ 141 3 [.s (.int .i64 n),.clo g [] [.ptr 1 0,.ptr 2 0]] (stS vs d) (RR (.s (.int .i64 (srch p 0 n))) 3 (stS vs d)):=by
 refine VC.enterR LZ (show EZ.func 141=some Tryz.f141 by kernel_rfl) (fun _ _=>rfl) rfl rfl [] ?_
 conv=>whnf
 refine⟨fun k f o c=>∃i j:Nat,i≤j∧j≤n∧srch p i j=srch p 0 n∧k=j - i∧c=3∧f=[(1,.clo g [] [.ptr 1 0,.ptr 2 0]),(5,.s (.int .i64 i)),(6,.s (.int .i64 j))]∧o=stS vs d,⟨n,?_⟩,?_⟩
 ·exact⟨[],[some 0,some 1,some 2],_,_,_,t3,⟨0,n,Nat.zero_le _,Nat.le_refl _,rfl,rfl,rfl,rfl,rfl⟩⟩
 ·rintro k f1 o1 c1 ⟨i,j,hij,hj,hs,rfl,rfl,rfl,rfl⟩
  conv=>whnf
  (first|refine⟨?_,?_⟩|refine nsplit ?_ ?_|refine bsplit ?_ ?_)<;>intro h<;>have hz_:=True.intro<;>clear hz_
  ·have h:i<j:=by exact Int.ofNat_lt.1 h
   have hm:=mid_eq i j h (by omega)
   have hc:=hg ((i+j) / 2) (by omega)
   conv=>whnf
   rw[hm]
   cases hp:p ((i+j) / 2)
   ·rw[hp]at hc
    refine⟨[],[some 0,some 1,some 2],_,_,_,_,hc,t3,cR ?_⟩
    conv=>whnf
    rw[IntWalk.i64_in _ (by omega)]
    refine⟨j - ((i+j) / 2+1),?_,by omega⟩
    exact⟨[],[some 0,some 1,some 2],_,_,_,t3,⟨(i+j) / 2+1,j,by omega,hj,(srch_f h hp).symm.trans hs,rfl,rfl,rfl,rfl⟩⟩
   ·rw[hp]at hc
    refine⟨[],[some 0,some 1,some 2],_,_,_,_,hc,t3,cR ?_⟩
    conv=>whnf
    refine⟨(i+j) / 2 - i,?_,by omega⟩
    exact⟨[],[some 0,some 1,some 2],_,_,_,t3,⟨i,(i+j) / 2,by omega,by omega,(srch_t h hp).symm.trans hs,rfl,rfl,rfl,rfl⟩⟩
  ·have h:¬i<j:=fun q=>h (Int.ofNat_lt.2 q)
   obtain rfl:i=j:=by omega
   rw[srch_n h]at hs
   conv=>whnf
   refine⟨[],[some 0,some 1,some 2],?_⟩
   iterate 3 constructor
   refine⟨⟨?_,?_,?_⟩,rfl,rfl,rfl⟩
   all_goals(repeat' first|exact LF|constructor)
   exact Lz.int (by rw[←hs])
theorem getD_in {vs:List Vs} {k:Nat} (hk:k<vs.length):vs.getD k zeroVs=vs[k]:=by simp[List.getD,hk]
theorem closI (vs:List Vs) (k:Nat) (hk:k<vs.length) (d:Int):VC EZ 152 3 [.s (.int .i64 k),.ptr 1 0,.ptr 2 0] (stS vs d) (RR (.s (.bool (decide (d<(vs.getD k zeroVs).seq)))) 3 (stS vs d)):=by
 rw[getD_in hk]
 refine VC.enterR LZ (show EZ.func 152=some Tryz.f152 by kernel_rfl) (fun _ _=>rfl) rfl rfl [] ?_
 ((conv=>whnf)<;>repeat(with_reducible refine D1 ?_)<;>conv=>whnf)
 refine⟨by simp;omega,?_⟩
 conv=>whnf
 refine⟨encV vs[k],by simp[hk],?_⟩
 conv=>whnf
 (first|refine⟨?_,?_⟩|refine nsplit ?_ ?_|refine bsplit ?_ ?_)<;>intro h<;>have hz_:=True.intro<;>clear hz_
 all_goals
  ((conv=>whnf)<;>repeat(with_reducible refine D1 ?_)<;>conv=>whnf)
  refine⟨[],[some 0,some 1,some 2],?_⟩
  iterate 3 constructor
  refine⟨⟨?_,?_,?_⟩,rfl,rfl,rfl⟩
  all_goals(repeat' first|exact LF|constructor)
  exact Lz.of (bool_eq (by simp_all))
theorem closP (vs:List Vs) (k:Nat) (hk:k<vs.length) (d:Int):VC EZ 142 3 [.s (.int .i64 k),.ptr 1 0,.ptr 2 0] (stS vs d) (RR (.s (.bool (decide (d≤(vs.getD k zeroVs).ver)))) 3 (stS vs d)):=by
 rw[getD_in hk]
 refine VC.enterR LZ (show EZ.func 142=some Tryz.f142 by kernel_rfl) (fun _ _=>rfl) rfl rfl [] ?_
 ((conv=>whnf)<;>repeat(with_reducible refine D1 ?_)<;>conv=>whnf)
 refine⟨by simp;omega,?_⟩
 conv=>whnf
 refine⟨encV vs[k],by simp[hk],?_⟩
 conv=>whnf
 (first|refine⟨?_,?_⟩|refine nsplit ?_ ?_|refine bsplit ?_ ?_)<;>intro h<;>have hz_:=True.intro<;>clear hz_
 all_goals
  ((conv=>whnf)<;>repeat(with_reducible refine D1 ?_)<;>conv=>whnf)
  refine⟨[],[some 0,some 1,some 2],?_⟩
  iterate 3 constructor
  refine⟨⟨?_,?_,?_⟩,rfl,rfl,rfl⟩
  all_goals(repeat' first|exact LF|constructor)
  exact Lz.of (bool_eq (by simp_all))
def cleanI (vs:List Vs) (d:Int):Int:=(srch (fun k=>decide (d<(vs.getD k zeroVs).seq)) 0 vs.length:Int) - 1
def pickI (vs:List Vs) (v:Int):Nat:=srch (fun k=>decide (v≤(vs.getD k zeroVs).ver)) 0 vs.length
theorem srch_le (p:Nat→Bool) (i j:Nat):i≤j→srch p i j≤j:=by
 induction i,j using srch.induct (p:=p)with
 |case1 i j h hp ih=>rw[srch_t h hp];intro q;have:=ih (by omega);omega
 |case2 i j h hp ih=>rw[srch_f h (by simpa using hp)];intro q;have:=ih (by omega);omega
 |case3 i j h=>rw[srch_n h];exact id
theorem bclean_ok (vs:List Vs) (d:Int) (hn:vs.length<1000000):VC EZ 122 1 [.ptr 0 0,.s (.int .u64 d)] (stB vs) (RR (.s (.int .i64 (cleanI vs d))) 1 (stB vs)):=by
 have hle:=srch_le (fun k=>decide (d<(vs.getD k zeroVs).seq)) 0 vs.length (Nat.zero_le _)
 refine VC.enterR LZ (show EZ.func 122=some Tryz.f122 by kernel_rfl) (fun _ _=>rfl) rfl rfl [] ?_
 conv=>whnf
 refine⟨[],[some 0],_,_,_,_,blen_ok vs,t3,cR ?_⟩
 conv=>whnf
 refine⟨[],[some 0,some 1,some 2],_,_,_,_,search_ok _ vs d _ vs.length hn (fun k hk=>closI vs k hk d),t3,cR ?_⟩
 conv=>whnf
 refine⟨[],[some 0],?_⟩
 iterate 3 constructor
 refine⟨⟨?_,?_,?_⟩,rfl,rfl,rfl⟩
 all_goals(repeat' first|exact LF|constructor)
 exact Lz.int (by rw[IntWalk.i64_in _ (by omega)];rfl)
theorem bClean_ok (vs:List Vs) (d:Int) (hn:vs.length<1000000) (hl:∀v∈vs,VOk v):VC EZ 102 1 [.ptr 0 0,.s (.int .u64 d)] (stB vs) (RR (.agg (encV (atV vs (cleanI vs d)))) 1 (stB vs)):=by
 refine VC.enterR LZ (show EZ.func 102=some Tryz.f102 by kernel_rfl) (fun _ _=>rfl) rfl rfl [] ?_
 conv=>whnf
 refine⟨[],[some 0],_,_,_,_,bclean_ok vs d hn,t3,cR ?_⟩
 conv=>whnf
 refine⟨[],[some 0],_,_,_,_,bat_ok vs _ hl,t3,cR ?_⟩
 conv=>whnf
 exact⟨[],[some 0],_,_,_,t3,rfl,rfl,rfl⟩
theorem bdirty_ok (vs:List Vs) (d:Int) (hn:vs.length<1000000):VC EZ 103 1 [.ptr 0 0,.s (.int .u64 d)] (stB vs) (RR (.s (.bool (decide (0<vs.length∧d<(lastV vs).seq)))) 1 (stB vs)):=by
 refine VC.enterR LZ (show EZ.func 103=some Tryz.f103 by kernel_rfl) (fun _ _=>rfl) rfl rfl [] ?_
 conv=>whnf
 refine⟨[],[some 0],_,_,_,_,blen_ok vs,t3,cR ?_⟩
 conv=>whnf
 obtain rfl |⟨ws,w,rfl⟩:=two_ends vs
 ·(first|refine⟨?_,?_⟩|refine nsplit ?_ ?_|refine bsplit ?_ ?_)<;>intro h<;>have hz_:=True.intro<;>clear hz_
  ·exact absurd h (by simp)
  ·conv=>whnf
   exact⟨[],[some 0],_,_,_,t3,rfl,rfl,rfl⟩
 ·have hn:ws.length+1<1000000:=by simpa using hn
  have hw:IntKind.i64.wrap ((((ws++[w]).length:Nat):Int) - 1)=((ws.length:Nat):Int):=by rw[IntWalk.i64_in _ (by simp;omega)];simp
  (first|refine⟨?_,?_⟩|refine nsplit ?_ ?_|refine bsplit ?_ ?_)<;>intro h<;>have hz_:=True.intro<;>clear hz_
  ·conv=>whnf
   refine⟨by rw[hw];simp;omega,?_⟩
   conv=>whnf
   refine⟨encV w,by rw[hw];simp,?_⟩
   conv=>whnf
   (first|refine⟨?_,?_⟩|refine nsplit ?_ ?_|refine bsplit ?_ ?_)<;>intro h2<;>have hz_:=True.intro<;>clear hz_
   all_goals
    conv=>whnf
    refine⟨[],[some 0],?_⟩
    iterate 3 constructor
    refine⟨⟨?_,?_,?_⟩,rfl,rfl,rfl⟩
    all_goals(repeat' first|exact LF|constructor)
    exact Lz.of (bool_eq (by simp_all[lastV_end]))
  ·exact absurd (show(0:Int)<(((ws++[w]).length:Nat):Int) by simp) h
@[reducible] def pickV (vs:List Vs) (v d:Int):Vs:=
 if(atV vs (pickI vs v)).ver=v then atV vs (pickI vs v)else if v<(atV vs (cleanI vs d)).ver then atV vs (cleanI vs d)else zeroVs
theorem bpick_ok (vs:List Vs) (v d:Int) (hn:vs.length<1000000) (hl:∀v∈vs,VOk v):VC EZ 104 1 [.ptr 0 0,.s (.int .u64 v),.s (.int .u64 d)] (stB vs) (RR (.agg (encV (pickV vs v d))) 1 (stB vs)):=by
 refine VC.enterR LZ (show EZ.func 104=some Tryz.f104 by kernel_rfl) (fun _ _=>rfl) rfl rfl [] ?_
 conv=>whnf
 refine⟨[],[some 0],_,_,_,_,blen_ok vs,t3,cR ?_⟩
 conv=>whnf
 refine⟨[],[some 0,some 1,some 2],_,_,_,_,search_ok _ vs v _ vs.length hn (fun k hk=>closP vs k hk v),t3,cR ?_⟩
 conv=>whnf
 refine⟨[],[some 0],_,_,_,_,bat_ok vs (pickI vs v) hl,t3,cR ?_⟩
 conv=>whnf
 (first|refine⟨?_,?_⟩|refine nsplit ?_ ?_|refine bsplit ?_ ?_)<;>intro h<;>have hz_:=True.intro<;>clear hz_
 ·have h:(atV vs (pickI vs v)).ver=v:=h
  rw[show pickV vs v d=atV vs (pickI vs v)from if_pos h]
  conv=>whnf
  exact⟨[],[some 0],_,_,_,t3,rfl,rfl,rfl⟩
 ·have h:¬(atV vs (pickI vs v)).ver=v:=h
  conv=>whnf
  refine⟨[],[some 0],_,_,_,_,bClean_ok vs d hn hl,t3,cR ?_⟩
  conv=>whnf
  (first|refine⟨?_,?_⟩|refine nsplit ?_ ?_|refine bsplit ?_ ?_)<;>intro h2<;>have hz_:=True.intro<;>clear hz_
  ·have h2:v<(atV vs (cleanI vs d)).ver:=h2
   rw[show pickV vs v d=atV vs (cleanI vs d)from(if_neg h).trans (if_pos h2)]
   conv=>whnf
   exact⟨[],[some 0],_,_,_,t3,rfl,rfl,rfl⟩
  ·have h2:¬v<(atV vs (cleanI vs d)).ver:=h2
   rw[show pickV vs v d=zeroVs from(if_neg h).trans (if_neg h2)]
   conv=>whnf
   exact⟨[],[some 0],_,_,_,t3,rfl,rfl,rfl⟩
@[reducible] def trimN (vs:List Vs) (d:Int):Nat:=(cleanI vs d).toNat
end Go.M
namespace Go.M
open Go Go.Proofs
set_option maxRecDepth 100000
set_option maxHeartbeats 4000000
structure RowS where
 (client:Int) (num:Int) (seq:Int) (code:Int) (ver:Int)
@[reducible] def zeroR:RowS:=⟨0,0,0,0,0⟩
@[reducible] def encR (r:RowS):List TV:=[.s (.int .i64 r.client),.s (.int .u64 r.num),.s (.int .u64 r.seq),.s (.int .i64 r.code),.s (.int .u64 r.ver)]
structure TabS where
 (r1:RowS) (r2:RowS) (r3:RowS) (r4:RowS) (r5:RowS) (r6:RowS)
def TabS.row (t:TabS) (c:Int):RowS:=if c=1 then t.r1 else if c=2 then t.r2 else if c=3 then t.r3 else if c=4 then t.r4 else if c=5 then t.r5 else if c=6 then t.r6 else zeroR
def TabS.put (t:TabS) (c:Int) (r:RowS):TabS:=if c=1 then {t with r1:=r}else if c=2 then {t with r2:=r}else if c=3 then {t with r3:=r}else if c=4 then {t with r4:=r}else if c=5 then {t with r5:=r}else if c=6 then {t with r6:=r}else t
@[reducible] def tabT (t:TabS):TO:=.cells [.s (.int .i64 t.r1.client),.s (.int .u64 t.r1.num),.s (.int .u64 t.r1.seq),.s (.int .i64 t.r1.code),.s (.int .u64 t.r1.ver),.s (.int .i64 t.r2.client),.s (.int .u64 t.r2.num),.s (.int .u64 t.r2.seq),.s (.int .i64 t.r2.code),.s (.int .u64 t.r2.ver),.s (.int .i64 t.r3.client),.s (.int .u64 t.r3.num),.s (.int .u64 t.r3.seq),.s (.int .i64 t.r3.code),.s (.int .u64 t.r3.ver),.s (.int .i64 t.r4.client),.s (.int .u64 t.r4.num),.s (.int .u64 t.r4.seq),.s (.int .i64 t.r4.code),.s (.int .u64 t.r4.ver),.s (.int .i64 t.r5.client),.s (.int .u64 t.r5.num),.s (.int .u64 t.r5.seq),.s (.int .i64 t.r5.code),.s (.int .u64 t.r5.ver),.s (.int .i64 t.r6.client),.s (.int .u64 t.r6.num),.s (.int .u64 t.r6.seq),.s (.int .i64 t.r6.code),.s (.int .u64 t.r6.ver)]
@[reducible] def stTab (t:TabS):Ob:=[(0,tabT t)]
@[reducible] def zeroTab:TabS:=⟨zeroR,zeroR,zeroR,zeroR,zeroR,zeroR⟩
theorem snew_ok:VC EZ 59 0 [] [] (RR (.ptr 0 0) 1 (stTab zeroTab)):=by
 refine VC.enterR LZ (show EZ.func 59=some Tryz.f59 by kernel_rfl) (fun _ _=>rfl) rfl rfl [] ?_
 conv=>whnf
 exact⟨[],[some 0],_,_,_,t3,rfl,rfl,rfl⟩
def isC (c:Int):Bool:=decide (1≤c∧c≤6)
theorem clientV (c:Int):VC EZ 112 0 [.s (.int .i64 c)] [] (RR (.s (.bool (isC c))) 0 []):=by
 refine VC.enterR LZ (show EZ.func 112=some Tryz.f112 by kernel_rfl) (fun _ _=>rfl) rfl rfl [] ?_
 conv=>whnf
 repeat'(first|((first|(refine⟨fun h=>?_,fun h=>?_⟩)|(refine nsplit (fun h=>?_) (fun h=>?_))|(refine bsplit (fun h=>?_) (fun h=>?_)))<;>(conv=>whnf)))
 all_goals
  refine⟨[],[],?_⟩
  iterate 3 constructor
  refine⟨⟨?_,?_,?_⟩,rfl,rfl,rfl⟩
  all_goals(repeat' first|exact LF|constructor)
  exact Lz.of (bool_eq (by unfold isC;simp at*;omega))
def fineB (r:RowS):Bool:=decide ((1≤r.client∧r.client≤6)∧1≤r.num∧1≤r.seq∧0≤r.code∧r.code≤255)
theorem fineV (r:RowS):VC EZ 117 0 [.agg (encR r)] [] (RR (.s (.bool (fineB r))) 0 []):=by
 refine VC.enterR LZ (show EZ.func 117=some Tryz.f117 by kernel_rfl) (fun _ _=>rfl) rfl rfl [] ?_
 conv=>whnf
 refine⟨[],[],_,_,_,_,clientV r.client,t3,?_⟩
 rintro r o' c' ⟨rfl,rfl,rfl⟩
 have hz_:=True.intro
 clear hz_
 cases hc:isC r.client
 ·conv=>whnf
  refine⟨[],[],?_⟩
  iterate 3 constructor
  refine⟨⟨?_,?_,?_⟩,rfl,rfl,rfl⟩
  all_goals(repeat' first|exact LF|constructor)
  exact Lz.of (bool_eq (by unfold isC at hc;unfold fineB;simp at hc ⊢;omega))
 ·have hc:1≤r.client∧r.client≤6:=by unfold isC at hc;simpa using hc
  conv=>whnf
  repeat'(first|((first|(refine⟨fun h=>?_,fun h=>?_⟩)|(refine nsplit (fun h=>?_) (fun h=>?_))|(refine bsplit (fun h=>?_) (fun h=>?_)))<;>(conv=>whnf)))
  all_goals
   refine⟨[],[],?_⟩
   iterate 3 constructor
   refine⟨⟨?_,?_,?_⟩,rfl,rfl,rfl⟩
   all_goals(repeat' first|exact LF|constructor)
   exact Lz.of (bool_eq (by unfold fineB;simp at*;omega))
def judgeC (t:TabS) (c n:Int):Int:=if¬(1≤c∧c≤6)∨n=0 then 2 else if(t.row c).num<n then 0 else if n=(t.row c).num then 1 else 2
theorem cases6 {c:Int} (h:1≤c∧c≤6):c=1∨c=2∨c=3∨c=4∨c=5∨c=6:=by omega
theorem sjudgeV (t:TabS) (c n:Int):VC EZ 61 1 [.ptr 0 0,.s (.int .i64 c),.s (.int .u64 n)] (stTab t) (RR (.s (.int .i64 (judgeC t c n))) 1 (stTab t)):=by
 by_cases hc:1≤c∧c≤6
 ·have hk:=clientV c
  rw[show isC c=true from by unfold isC;simpa using hc]at hk
  rcases cases6 hc with rfl |rfl |rfl |rfl |rfl |rfl
  ·refine VC.enterR LZ (show EZ.func 61=some Tryz.f61 by kernel_rfl) (fun _ _=>rfl) rfl rfl [] ?_
   conv=>whnf
   refine⟨[],[],_,_,_,_,hk,t3,cR ?_⟩
   conv=>whnf
   (first|refine⟨?_,?_⟩|refine nsplit ?_ ?_|refine bsplit ?_ ?_)<;>intro h0<;>have hz_:=True.intro<;>clear hz_
   ·conv=>whnf
    refine⟨[],[some 0],?_⟩
    iterate 3 constructor
    refine⟨⟨?_,?_,?_⟩,rfl,rfl,rfl⟩
    all_goals(repeat' first|exact LF|constructor)
    exact Lz.int (by unfold judgeC;rw[if_pos (.inr h0)])
   ·conv=>whnf
    refine⟨show(0≤IntKind.i64.wrap (1 - 1))∧IntKind.i64.wrap (1 - 1)<(6:Int) by decide,?_⟩
    conv=>whnf
    repeat'(first|((first|(refine⟨fun h=>?_,fun h=>?_⟩)|(refine nsplit (fun h=>?_) (fun h=>?_))|(refine bsplit (fun h=>?_) (fun h=>?_)))<;>(conv=>whnf)))
    all_goals
     refine⟨[],[some 0],?_⟩
     iterate 3 constructor
     refine⟨⟨?_,?_,?_⟩,rfl,rfl,rfl⟩
     all_goals(repeat' first|exact LF|constructor)
     exact Lz.int (by unfold judgeC TabS.row;simp at*;omega)
  ·refine VC.enterR LZ (show EZ.func 61=some Tryz.f61 by kernel_rfl) (fun _ _=>rfl) rfl rfl [] ?_
   conv=>whnf
   refine⟨[],[],_,_,_,_,hk,t3,cR ?_⟩
   conv=>whnf
   (first|refine⟨?_,?_⟩|refine nsplit ?_ ?_|refine bsplit ?_ ?_)<;>intro h0<;>have hz_:=True.intro<;>clear hz_
   ·conv=>whnf
    refine⟨[],[some 0],?_⟩
    iterate 3 constructor
    refine⟨⟨?_,?_,?_⟩,rfl,rfl,rfl⟩
    all_goals(repeat' first|exact LF|constructor)
    exact Lz.int (by unfold judgeC;rw[if_pos (.inr h0)])
   ·conv=>whnf
    refine⟨show(0≤IntKind.i64.wrap (2 - 1))∧IntKind.i64.wrap (2 - 1)<(6:Int) by decide,?_⟩
    conv=>whnf
    repeat'(first|((first|(refine⟨fun h=>?_,fun h=>?_⟩)|(refine nsplit (fun h=>?_) (fun h=>?_))|(refine bsplit (fun h=>?_) (fun h=>?_)))<;>(conv=>whnf)))
    all_goals
     refine⟨[],[some 0],?_⟩
     iterate 3 constructor
     refine⟨⟨?_,?_,?_⟩,rfl,rfl,rfl⟩
     all_goals(repeat' first|exact LF|constructor)
     exact Lz.int (by unfold judgeC TabS.row;simp at*;omega)
  ·refine VC.enterR LZ (show EZ.func 61=some Tryz.f61 by kernel_rfl) (fun _ _=>rfl) rfl rfl [] ?_
   conv=>whnf
   refine⟨[],[],_,_,_,_,hk,t3,cR ?_⟩
   conv=>whnf
   (first|refine⟨?_,?_⟩|refine nsplit ?_ ?_|refine bsplit ?_ ?_)<;>intro h0<;>have hz_:=True.intro<;>clear hz_
   ·conv=>whnf
    refine⟨[],[some 0],?_⟩
    iterate 3 constructor
    refine⟨⟨?_,?_,?_⟩,rfl,rfl,rfl⟩
    all_goals(repeat' first|exact LF|constructor)
    exact Lz.int (by unfold judgeC;rw[if_pos (.inr h0)])
   ·conv=>whnf
    refine⟨show(0≤IntKind.i64.wrap (3 - 1))∧IntKind.i64.wrap (3 - 1)<(6:Int) by decide,?_⟩
    conv=>whnf
    repeat'(first|((first|(refine⟨fun h=>?_,fun h=>?_⟩)|(refine nsplit (fun h=>?_) (fun h=>?_))|(refine bsplit (fun h=>?_) (fun h=>?_)))<;>(conv=>whnf)))
    all_goals
     refine⟨[],[some 0],?_⟩
     iterate 3 constructor
     refine⟨⟨?_,?_,?_⟩,rfl,rfl,rfl⟩
     all_goals(repeat' first|exact LF|constructor)
     exact Lz.int (by unfold judgeC TabS.row;simp at*;omega)
  ·refine VC.enterR LZ (show EZ.func 61=some Tryz.f61 by kernel_rfl) (fun _ _=>rfl) rfl rfl [] ?_
   conv=>whnf
   refine⟨[],[],_,_,_,_,hk,t3,cR ?_⟩
   conv=>whnf
   (first|refine⟨?_,?_⟩|refine nsplit ?_ ?_|refine bsplit ?_ ?_)<;>intro h0<;>have hz_:=True.intro<;>clear hz_
   ·conv=>whnf
    refine⟨[],[some 0],?_⟩
    iterate 3 constructor
    refine⟨⟨?_,?_,?_⟩,rfl,rfl,rfl⟩
    all_goals(repeat' first|exact LF|constructor)
    exact Lz.int (by unfold judgeC;rw[if_pos (.inr h0)])
   ·conv=>whnf
    refine⟨show(0≤IntKind.i64.wrap (4 - 1))∧IntKind.i64.wrap (4 - 1)<(6:Int) by decide,?_⟩
    conv=>whnf
    repeat'(first|((first|(refine⟨fun h=>?_,fun h=>?_⟩)|(refine nsplit (fun h=>?_) (fun h=>?_))|(refine bsplit (fun h=>?_) (fun h=>?_)))<;>(conv=>whnf)))
    all_goals
     refine⟨[],[some 0],?_⟩
     iterate 3 constructor
     refine⟨⟨?_,?_,?_⟩,rfl,rfl,rfl⟩
     all_goals(repeat' first|exact LF|constructor)
     exact Lz.int (by unfold judgeC TabS.row;simp at*;omega)
  ·refine VC.enterR LZ (show EZ.func 61=some Tryz.f61 by kernel_rfl) (fun _ _=>rfl) rfl rfl [] ?_
   conv=>whnf
   refine⟨[],[],_,_,_,_,hk,t3,cR ?_⟩
   conv=>whnf
   (first|refine⟨?_,?_⟩|refine nsplit ?_ ?_|refine bsplit ?_ ?_)<;>intro h0<;>have hz_:=True.intro<;>clear hz_
   ·conv=>whnf
    refine⟨[],[some 0],?_⟩
    iterate 3 constructor
    refine⟨⟨?_,?_,?_⟩,rfl,rfl,rfl⟩
    all_goals(repeat' first|exact LF|constructor)
    exact Lz.int (by unfold judgeC;rw[if_pos (.inr h0)])
   ·conv=>whnf
    refine⟨show(0≤IntKind.i64.wrap (5 - 1))∧IntKind.i64.wrap (5 - 1)<(6:Int) by decide,?_⟩
    conv=>whnf
    repeat'(first|((first|(refine⟨fun h=>?_,fun h=>?_⟩)|(refine nsplit (fun h=>?_) (fun h=>?_))|(refine bsplit (fun h=>?_) (fun h=>?_)))<;>(conv=>whnf)))
    all_goals
     refine⟨[],[some 0],?_⟩
     iterate 3 constructor
     refine⟨⟨?_,?_,?_⟩,rfl,rfl,rfl⟩
     all_goals(repeat' first|exact LF|constructor)
     exact Lz.int (by unfold judgeC TabS.row;simp at*;omega)
  ·refine VC.enterR LZ (show EZ.func 61=some Tryz.f61 by kernel_rfl) (fun _ _=>rfl) rfl rfl [] ?_
   conv=>whnf
   refine⟨[],[],_,_,_,_,hk,t3,cR ?_⟩
   conv=>whnf
   (first|refine⟨?_,?_⟩|refine nsplit ?_ ?_|refine bsplit ?_ ?_)<;>intro h0<;>have hz_:=True.intro<;>clear hz_
   ·conv=>whnf
    refine⟨[],[some 0],?_⟩
    iterate 3 constructor
    refine⟨⟨?_,?_,?_⟩,rfl,rfl,rfl⟩
    all_goals(repeat' first|exact LF|constructor)
    exact Lz.int (by unfold judgeC;rw[if_pos (.inr h0)])
   ·conv=>whnf
    refine⟨show(0≤IntKind.i64.wrap (6 - 1))∧IntKind.i64.wrap (6 - 1)<(6:Int) by decide,?_⟩
    conv=>whnf
    repeat'(first|((first|(refine⟨fun h=>?_,fun h=>?_⟩)|(refine nsplit (fun h=>?_) (fun h=>?_))|(refine bsplit (fun h=>?_) (fun h=>?_)))<;>(conv=>whnf)))
    all_goals
     refine⟨[],[some 0],?_⟩
     iterate 3 constructor
     refine⟨⟨?_,?_,?_⟩,rfl,rfl,rfl⟩
     all_goals(repeat' first|exact LF|constructor)
     exact Lz.int (by unfold judgeC TabS.row;simp at*;omega)
 ·have hk:=clientV c
  rw[show isC c=false from by unfold isC;simpa using hc]at hk
  refine VC.enterR LZ (show EZ.func 61=some Tryz.f61 by kernel_rfl) (fun _ _=>rfl) rfl rfl [] ?_
  conv=>whnf
  refine⟨[],[],_,_,_,_,hk,t3,cR ?_⟩
  conv=>whnf
  refine⟨[],[some 0],?_⟩
  iterate 3 constructor
  refine⟨⟨?_,?_,?_⟩,rfl,rfl,rfl⟩
  all_goals(repeat' first|exact LF|constructor)
  exact Lz.int (by unfold judgeC;rw[if_pos (.inl hc)])
def getC (t:TabS) (c:Int):RowS×Bool:=if¬(1≤c∧c≤6)∨(t.row c).num=0 then(zeroR,false)else(t.row c,true)
@[reducible] def encG (q:RowS×Bool):TV:=.tup [.agg (encR q.1),.s (.bool q.2)]
theorem sget_ok (t:TabS) (c:Int):VC EZ 101 1 [.ptr 0 0,.s (.int .i64 c)] (stTab t) (RR (encG (getC t c)) 1 (stTab t)):=by
 by_cases hc:1≤c∧c≤6
 ·have hk:=clientV c
  rw[show isC c=true from by unfold isC;simpa using hc]at hk
  rcases cases6 hc with rfl |rfl |rfl |rfl |rfl |rfl
  ·refine VC.enterR LZ (show EZ.func 101=some Tryz.f101 by kernel_rfl) (fun _ _=>rfl) rfl rfl [] ?_
   conv=>whnf
   refine⟨[],[],_,_,_,_,hk,t3,cR ?_⟩
   conv=>whnf
   refine⟨by decide,?_⟩
   conv=>whnf
   (first|refine⟨?_,?_⟩|refine nsplit ?_ ?_|refine bsplit ?_ ?_)<;>intro h0<;>have hz_:=True.intro<;>clear hz_
   ·rw[show getC t 1=(zeroR,false)from if_pos (.inr h0)]
    conv=>whnf
    exact⟨[],[some 0],_,_,_,t3,rfl,rfl,rfl⟩
   ·rw[show getC t 1=(t.row 1,true)from if_neg (not_or.2 ⟨not_not_intro hc,h0⟩)]
    conv=>whnf
    refine⟨show(0≤IntKind.i64.wrap (1 - 1))∧IntKind.i64.wrap (1 - 1)<(6:Int) by decide,?_⟩
    conv=>whnf
    exact⟨[],[some 0],_,_,_,t3,rfl,rfl,rfl⟩
  ·refine VC.enterR LZ (show EZ.func 101=some Tryz.f101 by kernel_rfl) (fun _ _=>rfl) rfl rfl [] ?_
   conv=>whnf
   refine⟨[],[],_,_,_,_,hk,t3,cR ?_⟩
   conv=>whnf
   refine⟨by decide,?_⟩
   conv=>whnf
   (first|refine⟨?_,?_⟩|refine nsplit ?_ ?_|refine bsplit ?_ ?_)<;>intro h0<;>have hz_:=True.intro<;>clear hz_
   ·rw[show getC t 2=(zeroR,false)from if_pos (.inr h0)]
    conv=>whnf
    exact⟨[],[some 0],_,_,_,t3,rfl,rfl,rfl⟩
   ·rw[show getC t 2=(t.row 2,true)from if_neg (not_or.2 ⟨not_not_intro hc,h0⟩)]
    conv=>whnf
    refine⟨show(0≤IntKind.i64.wrap (2 - 1))∧IntKind.i64.wrap (2 - 1)<(6:Int) by decide,?_⟩
    conv=>whnf
    exact⟨[],[some 0],_,_,_,t3,rfl,rfl,rfl⟩
  ·refine VC.enterR LZ (show EZ.func 101=some Tryz.f101 by kernel_rfl) (fun _ _=>rfl) rfl rfl [] ?_
   conv=>whnf
   refine⟨[],[],_,_,_,_,hk,t3,cR ?_⟩
   conv=>whnf
   refine⟨by decide,?_⟩
   conv=>whnf
   (first|refine⟨?_,?_⟩|refine nsplit ?_ ?_|refine bsplit ?_ ?_)<;>intro h0<;>have hz_:=True.intro<;>clear hz_
   ·rw[show getC t 3=(zeroR,false)from if_pos (.inr h0)]
    conv=>whnf
    exact⟨[],[some 0],_,_,_,t3,rfl,rfl,rfl⟩
   ·rw[show getC t 3=(t.row 3,true)from if_neg (not_or.2 ⟨not_not_intro hc,h0⟩)]
    conv=>whnf
    refine⟨show(0≤IntKind.i64.wrap (3 - 1))∧IntKind.i64.wrap (3 - 1)<(6:Int) by decide,?_⟩
    conv=>whnf
    exact⟨[],[some 0],_,_,_,t3,rfl,rfl,rfl⟩
  ·refine VC.enterR LZ (show EZ.func 101=some Tryz.f101 by kernel_rfl) (fun _ _=>rfl) rfl rfl [] ?_
   conv=>whnf
   refine⟨[],[],_,_,_,_,hk,t3,cR ?_⟩
   conv=>whnf
   refine⟨by decide,?_⟩
   conv=>whnf
   (first|refine⟨?_,?_⟩|refine nsplit ?_ ?_|refine bsplit ?_ ?_)<;>intro h0<;>have hz_:=True.intro<;>clear hz_
   ·rw[show getC t 4=(zeroR,false)from if_pos (.inr h0)]
    conv=>whnf
    exact⟨[],[some 0],_,_,_,t3,rfl,rfl,rfl⟩
   ·rw[show getC t 4=(t.row 4,true)from if_neg (not_or.2 ⟨not_not_intro hc,h0⟩)]
    conv=>whnf
    refine⟨show(0≤IntKind.i64.wrap (4 - 1))∧IntKind.i64.wrap (4 - 1)<(6:Int) by decide,?_⟩
    conv=>whnf
    exact⟨[],[some 0],_,_,_,t3,rfl,rfl,rfl⟩
  ·refine VC.enterR LZ (show EZ.func 101=some Tryz.f101 by kernel_rfl) (fun _ _=>rfl) rfl rfl [] ?_
   conv=>whnf
   refine⟨[],[],_,_,_,_,hk,t3,cR ?_⟩
   conv=>whnf
   refine⟨by decide,?_⟩
   conv=>whnf
   (first|refine⟨?_,?_⟩|refine nsplit ?_ ?_|refine bsplit ?_ ?_)<;>intro h0<;>have hz_:=True.intro<;>clear hz_
   ·rw[show getC t 5=(zeroR,false)from if_pos (.inr h0)]
    conv=>whnf
    exact⟨[],[some 0],_,_,_,t3,rfl,rfl,rfl⟩
   ·rw[show getC t 5=(t.row 5,true)from if_neg (not_or.2 ⟨not_not_intro hc,h0⟩)]
    conv=>whnf
    refine⟨show(0≤IntKind.i64.wrap (5 - 1))∧IntKind.i64.wrap (5 - 1)<(6:Int) by decide,?_⟩
    conv=>whnf
    exact⟨[],[some 0],_,_,_,t3,rfl,rfl,rfl⟩
  ·refine VC.enterR LZ (show EZ.func 101=some Tryz.f101 by kernel_rfl) (fun _ _=>rfl) rfl rfl [] ?_
   conv=>whnf
   refine⟨[],[],_,_,_,_,hk,t3,cR ?_⟩
   conv=>whnf
   refine⟨by decide,?_⟩
   conv=>whnf
   (first|refine⟨?_,?_⟩|refine nsplit ?_ ?_|refine bsplit ?_ ?_)<;>intro h0<;>have hz_:=True.intro<;>clear hz_
   ·rw[show getC t 6=(zeroR,false)from if_pos (.inr h0)]
    conv=>whnf
    exact⟨[],[some 0],_,_,_,t3,rfl,rfl,rfl⟩
   ·rw[show getC t 6=(t.row 6,true)from if_neg (not_or.2 ⟨not_not_intro hc,h0⟩)]
    conv=>whnf
    refine⟨show(0≤IntKind.i64.wrap (6 - 1))∧IntKind.i64.wrap (6 - 1)<(6:Int) by decide,?_⟩
    conv=>whnf
    exact⟨[],[some 0],_,_,_,t3,rfl,rfl,rfl⟩
 ·have hk:=clientV c
  rw[show isC c=false from by unfold isC;simpa using hc]at hk
  rw[show getC t c=(zeroR,false)from if_pos (.inl hc)]
  refine VC.enterR LZ (show EZ.func 101=some Tryz.f101 by kernel_rfl) (fun _ _=>rfl) rfl rfl [] ?_
  conv=>whnf
  refine⟨[],[],_,_,_,_,hk,t3,cR ?_⟩
  conv=>whnf
  exact⟨[],[some 0],_,_,_,t3,rfl,rfl,rfl⟩
def setC (t:TabS) (r:RowS):Int:=if fineB r=false then 1 else if judgeC t r.client r.num≠0 then 12 else 0
def setT (t:TabS) (r:RowS):TabS:=if setC t r=0 then t.put r.client r else t
theorem sset_ok (t:TabS) (r:RowS):VC EZ 65 1 [.ptr 0 0,.agg (encR r)] (stTab t) (RR (.s (.int .i64 (setC t r))) 1 (stTab (setT t r))):=by
 have hf:=fineV r
 cases hb:fineB r
 ·rw[hb]at hf
  have e1:setC t r=1:=if_pos hb
  rw[show setT t r=t from if_neg (by rw[e1];decide),e1]
  refine VC.enterR LZ (show EZ.func 65=some Tryz.f65 by kernel_rfl) (fun _ _=>rfl) rfl rfl [] ?_
  conv=>whnf
  refine⟨[],[],_,_,_,_,hf,t3,cR ?_⟩
  conv=>whnf
  exact⟨[],[some 0],_,_,_,t3,rfl,rfl,rfl⟩
 ·rw[hb]at hf
  have hj:=sjudgeV t r.client r.num
  by_cases h0:judgeC t r.client r.num=0
  ·have e1:setC t r=0:=by unfold setC;rw[if_neg (by rw[hb];decide),if_neg (by rw[h0];decide)]
   rw[show setT t r=t.put r.client r from if_pos e1,e1]
   rw[h0]at hj
   have hc:1≤r.client∧r.client≤6:=by unfold fineB at hb;simp at hb;omega
   obtain⟨c,rn,rs,rc,rv⟩:=r
   rcases cases6 hc with rfl |rfl |rfl |rfl |rfl |rfl
   ·refine VC.enterR LZ (show EZ.func 65=some Tryz.f65 by kernel_rfl) (fun _ _=>rfl) rfl rfl [] ?_
    conv=>whnf
    refine⟨[],[],_,_,_,_,hf,t3,cR ?_⟩
    conv=>whnf
    refine⟨[],[some 0],_,_,_,_,hj,t3,cR ?_⟩
    conv=>whnf
    (first|refine⟨?_,?_⟩|refine nsplit ?_ ?_|refine bsplit ?_ ?_)<;>intro h2<;>have hz_:=True.intro<;>clear hz_
    ·exact absurd rfl h2
    ·((conv=>whnf)<;>repeat(with_reducible refine D1 ?_)<;>conv=>whnf)
     refine⟨show(0≤IntKind.i64.wrap (1 - 1))∧IntKind.i64.wrap (1 - 1)<(6:Int) by decide,?_⟩
     ((conv=>whnf)<;>repeat(with_reducible refine D1 ?_)<;>conv=>whnf)
     exact⟨[],[some 0],_,_,_,t3,rfl,rfl,rfl⟩
   ·refine VC.enterR LZ (show EZ.func 65=some Tryz.f65 by kernel_rfl) (fun _ _=>rfl) rfl rfl [] ?_
    conv=>whnf
    refine⟨[],[],_,_,_,_,hf,t3,cR ?_⟩
    conv=>whnf
    refine⟨[],[some 0],_,_,_,_,hj,t3,cR ?_⟩
    conv=>whnf
    (first|refine⟨?_,?_⟩|refine nsplit ?_ ?_|refine bsplit ?_ ?_)<;>intro h2<;>have hz_:=True.intro<;>clear hz_
    ·exact absurd rfl h2
    ·((conv=>whnf)<;>repeat(with_reducible refine D1 ?_)<;>conv=>whnf)
     refine⟨show(0≤IntKind.i64.wrap (2 - 1))∧IntKind.i64.wrap (2 - 1)<(6:Int) by decide,?_⟩
     ((conv=>whnf)<;>repeat(with_reducible refine D1 ?_)<;>conv=>whnf)
     exact⟨[],[some 0],_,_,_,t3,rfl,rfl,rfl⟩
   ·refine VC.enterR LZ (show EZ.func 65=some Tryz.f65 by kernel_rfl) (fun _ _=>rfl) rfl rfl [] ?_
    conv=>whnf
    refine⟨[],[],_,_,_,_,hf,t3,cR ?_⟩
    conv=>whnf
    refine⟨[],[some 0],_,_,_,_,hj,t3,cR ?_⟩
    conv=>whnf
    (first|refine⟨?_,?_⟩|refine nsplit ?_ ?_|refine bsplit ?_ ?_)<;>intro h2<;>have hz_:=True.intro<;>clear hz_
    ·exact absurd rfl h2
    ·((conv=>whnf)<;>repeat(with_reducible refine D1 ?_)<;>conv=>whnf)
     refine⟨show(0≤IntKind.i64.wrap (3 - 1))∧IntKind.i64.wrap (3 - 1)<(6:Int) by decide,?_⟩
     ((conv=>whnf)<;>repeat(with_reducible refine D1 ?_)<;>conv=>whnf)
     exact⟨[],[some 0],_,_,_,t3,rfl,rfl,rfl⟩
   ·refine VC.enterR LZ (show EZ.func 65=some Tryz.f65 by kernel_rfl) (fun _ _=>rfl) rfl rfl [] ?_
    conv=>whnf
    refine⟨[],[],_,_,_,_,hf,t3,cR ?_⟩
    conv=>whnf
    refine⟨[],[some 0],_,_,_,_,hj,t3,cR ?_⟩
    conv=>whnf
    (first|refine⟨?_,?_⟩|refine nsplit ?_ ?_|refine bsplit ?_ ?_)<;>intro h2<;>have hz_:=True.intro<;>clear hz_
    ·exact absurd rfl h2
    ·((conv=>whnf)<;>repeat(with_reducible refine D1 ?_)<;>conv=>whnf)
     refine⟨show(0≤IntKind.i64.wrap (4 - 1))∧IntKind.i64.wrap (4 - 1)<(6:Int) by decide,?_⟩
     ((conv=>whnf)<;>repeat(with_reducible refine D1 ?_)<;>conv=>whnf)
     exact⟨[],[some 0],_,_,_,t3,rfl,rfl,rfl⟩
   ·refine VC.enterR LZ (show EZ.func 65=some Tryz.f65 by kernel_rfl) (fun _ _=>rfl) rfl rfl [] ?_
    conv=>whnf
    refine⟨[],[],_,_,_,_,hf,t3,cR ?_⟩
    conv=>whnf
    refine⟨[],[some 0],_,_,_,_,hj,t3,cR ?_⟩
    conv=>whnf
    (first|refine⟨?_,?_⟩|refine nsplit ?_ ?_|refine bsplit ?_ ?_)<;>intro h2<;>have hz_:=True.intro<;>clear hz_
    ·exact absurd rfl h2
    ·((conv=>whnf)<;>repeat(with_reducible refine D1 ?_)<;>conv=>whnf)
     refine⟨show(0≤IntKind.i64.wrap (5 - 1))∧IntKind.i64.wrap (5 - 1)<(6:Int) by decide,?_⟩
     ((conv=>whnf)<;>repeat(with_reducible refine D1 ?_)<;>conv=>whnf)
     exact⟨[],[some 0],_,_,_,t3,rfl,rfl,rfl⟩
   ·refine VC.enterR LZ (show EZ.func 65=some Tryz.f65 by kernel_rfl) (fun _ _=>rfl) rfl rfl [] ?_
    conv=>whnf
    refine⟨[],[],_,_,_,_,hf,t3,cR ?_⟩
    conv=>whnf
    refine⟨[],[some 0],_,_,_,_,hj,t3,cR ?_⟩
    conv=>whnf
    (first|refine⟨?_,?_⟩|refine nsplit ?_ ?_|refine bsplit ?_ ?_)<;>intro h2<;>have hz_:=True.intro<;>clear hz_
    ·exact absurd rfl h2
    ·((conv=>whnf)<;>repeat(with_reducible refine D1 ?_)<;>conv=>whnf)
     refine⟨show(0≤IntKind.i64.wrap (6 - 1))∧IntKind.i64.wrap (6 - 1)<(6:Int) by decide,?_⟩
     ((conv=>whnf)<;>repeat(with_reducible refine D1 ?_)<;>conv=>whnf)
     exact⟨[],[some 0],_,_,_,t3,rfl,rfl,rfl⟩
  ·have e1:setC t r=12:=by unfold setC;rw[if_neg (by rw[hb];decide),if_pos h0]
   rw[show setT t r=t from if_neg (by rw[e1];decide),e1]
   refine VC.enterR LZ (show EZ.func 65=some Tryz.f65 by kernel_rfl) (fun _ _=>rfl) rfl rfl [] ?_
   conv=>whnf
   refine⟨[],[],_,_,_,_,hf,t3,cR ?_⟩
   conv=>whnf
   refine⟨[],[some 0],_,_,_,_,hj,t3,cR ?_⟩
   conv=>whnf
   (first|refine⟨?_,?_⟩|refine nsplit ?_ ?_|refine bsplit ?_ ?_)<;>intro h2<;>have hz_:=True.intro<;>clear hz_
   ·conv=>whnf
    exact⟨[],[some 0],_,_,_,t3,rfl,rfl,rfl⟩
   ·exact absurd h0 h2
end Go.M
namespace Go.M
open Go Go.Proofs
set_option maxRecDepth 100000
set_option maxHeartbeats 4000000
@[reducible] def nilP:TV:=.s (.pointer none)
@[reducible] def nilS:TV:=.sl 0 [] true
@[reducible] def i0:TV:=.s (.int .i64 0)
@[reducible] def u0:TV:=.s (.int .u64 0)
@[reducible] def zV:TV:=.agg (encV zeroVs)
@[reducible] def boxes (d:Int):Ob:=[(1,.cells [.s (.int .u64 d)]),(0,.cells [nilP])]
theorem blen_nil:VC EZ 124 0 [nilP] [] (RR i0 0 []):=by
 refine VC.enterR LZ (show EZ.func 124=some Tryz.f124 by kernel_rfl) (fun _ _=>rfl) rfl rfl [] ?_
 conv=>whnf
 exact⟨[],[],_,_,_,t3,rfl,rfl,rfl⟩
theorem bat_nil (i:Int):VC EZ 123 0 [nilP,.s (.int .i64 i)] [] (RR zV 0 []):=by
 refine VC.enterR LZ (show EZ.func 123=some Tryz.f123 by kernel_rfl) (fun _ _=>rfl) rfl rfl [] ?_
 conv=>whnf
 exact⟨[],[],_,_,_,t3,rfl,rfl,rfl⟩
theorem blast_nil:VC EZ 82 0 [nilP] [] (RR zV 0 []):=by
 refine VC.enterR LZ (show EZ.func 82=some Tryz.f82 by kernel_rfl) (fun _ _=>rfl) rfl rfl [] ?_
 conv=>whnf
 refine⟨[],[],_,_,_,_,blen_nil,t3,cR ?_⟩
 conv=>whnf
 refine⟨[],[],_,_,_,_,bat_nil (-1),t3,cR ?_⟩
 conv=>whnf
 exact⟨[],[],_,_,_,t3,rfl,rfl,rfl⟩
theorem bdirty_nil (d:Int):VC EZ 103 0 [nilP,.s (.int .u64 d)] [] (RR (.s (.bool false)) 0 []):=by
 refine VC.enterR LZ (show EZ.func 103=some Tryz.f103 by kernel_rfl) (fun _ _=>rfl) rfl rfl [] ?_
 conv=>whnf
 refine⟨[],[],_,_,_,_,blen_nil,t3,cR ?_⟩
 conv=>whnf
 repeat((first|(refine⟨fun h_=>?_,fun h_=>?_⟩)|(refine nsplit (fun h_=>?_) (fun h_=>?_))|(refine bsplit (fun h_=>?_) (fun h_=>?_)))<;>first|(exfalso;revert h_;decide;done)|(exact absurd rfl h_)|(have hz_:=True.intro;clear hz_;(conv=>whnf)))
 exact⟨[],[],_,_,_,t3,rfl,rfl,rfl⟩
theorem search_nil (g:Nat) (d:Int):VC EZ 141 2 [i0,.clo g [] [.ptr 0 0,.ptr 1 0]] (boxes d) (RR i0 2 (boxes d)):=by
 refine VC.enterR LZ (show EZ.func 141=some Tryz.f141 by kernel_rfl) (fun _ _=>rfl) rfl rfl [] ?_
 conv=>whnf
 refine⟨fun k f o c=>k=0∧c=2∧f=[(1,.clo g [] [.ptr 0 0,.ptr 1 0]),(5,i0),(6,i0)]∧o=boxes d,⟨0,?_⟩,?_⟩
 ·exact⟨[],[some 0,some 1],_,_,_,t3,⟨rfl,rfl,rfl,rfl⟩⟩
 ·rintro k f1 o1 c1 ⟨rfl,rfl,rfl,rfl⟩
  conv=>whnf
  repeat((first|(refine⟨fun h_=>?_,fun h_=>?_⟩)|(refine nsplit (fun h_=>?_) (fun h_=>?_))|(refine bsplit (fun h_=>?_) (fun h_=>?_)))<;>first|(exfalso;revert h_;decide;done)|(exact absurd rfl h_)|(have hz_:=True.intro;clear hz_;(conv=>whnf)))
  exact⟨[],[some 0,some 1],_,_,_,t3,rfl,rfl,rfl⟩
theorem bclean_nil (d:Int):VC EZ 122 0 [nilP,.s (.int .u64 d)] [] (RR (.s (.int .i64 (-1))) 0 []):=by
 refine VC.enterR LZ (show EZ.func 122=some Tryz.f122 by kernel_rfl) (fun _ _=>rfl) rfl rfl [] ?_
 conv=>whnf
 refine⟨[],[],_,_,_,_,blen_nil,t3,cR ?_⟩
 conv=>whnf
 refine⟨[],[some 0,some 1],_,_,_,_,search_nil _ d,t3,cR ?_⟩
 conv=>whnf
 exact⟨[],[],_,_,_,t3,rfl,rfl,rfl⟩
theorem bClean_nil (d:Int):VC EZ 102 0 [nilP,.s (.int .u64 d)] [] (RR zV 0 []):=by
 refine VC.enterR LZ (show EZ.func 102=some Tryz.f102 by kernel_rfl) (fun _ _=>rfl) rfl rfl [] ?_
 conv=>whnf
 refine⟨[],[],_,_,_,_,bclean_nil d,t3,cR ?_⟩
 conv=>whnf
 refine⟨[],[],_,_,_,_,bat_nil (-1),t3,cR ?_⟩
 conv=>whnf
 exact⟨[],[],_,_,_,t3,rfl,rfl,rfl⟩
theorem bpick_nil (v d:Int):VC EZ 104 0 [nilP,.s (.int .u64 v),.s (.int .u64 d)] [] (RR zV 0 []):=by
 refine VC.enterR LZ (show EZ.func 104=some Tryz.f104 by kernel_rfl) (fun _ _=>rfl) rfl rfl [] ?_
 conv=>whnf
 refine⟨[],[],_,_,_,_,blen_nil,t3,cR ?_⟩
 conv=>whnf
 refine⟨[],[some 0,some 1],_,_,_,_,search_nil _ v,t3,cR ?_⟩
 conv=>whnf
 refine⟨[],[],_,_,_,_,bat_nil 0,t3,cR ?_⟩
 conv=>whnf
 (first|refine⟨?_,?_⟩|refine nsplit ?_ ?_|refine bsplit ?_ ?_)<;>intro h<;>have hz_:=True.intro<;>clear hz_
 ·have h:(0:Int)=v:=h
  conv=>whnf
  exact⟨[],[],_,_,_,t3,rfl,rfl,rfl⟩
 ·have h:¬(0:Int)=v:=h
  conv=>whnf
  refine⟨[],[],_,_,_,_,bClean_nil d,t3,cR ?_⟩
  conv=>whnf
  (first|refine⟨?_,?_⟩|refine nsplit ?_ ?_|refine bsplit ?_ ?_)<;>intro h2<;>have hz_:=True.intro<;>clear hz_
  ·conv=>whnf
   exact⟨[],[],_,_,_,t3,rfl,rfl,rfl⟩
  ·conv=>whnf
   exact⟨[],[],_,_,_,t3,rfl,rfl,rfl⟩
end Go.M
namespace Go.M
open Go
noncomputable def eqB {α:Type} (a b:α):Bool:=@decide (a=b) (Classical.propDecidable _)
theorem take_snoc {α:Type} (l:List α) (i:Nat) (h:i<l.length):l.take (i+1)=l.take i++[l[i]]:=by rw[List.take_succ_eq_append_getElem h]
end Go.M
