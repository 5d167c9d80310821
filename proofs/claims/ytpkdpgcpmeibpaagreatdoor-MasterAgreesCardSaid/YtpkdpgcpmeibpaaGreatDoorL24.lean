/-
  Part 24 of the library that the proof leans on.
-/
import Derived.Test.YtpkdpgcpmeibpaaGreatDoorL12
import Derived.Test.YtpkdpgcpmeibpaaGreatDoorL18
import Derived.Test.YtpkdpgcpmeibpaaGreatDoorL17
import Derived.Test.YtpkdpgcpmeibpaaGreatDoorL23
namespace Go.M
open Go Go.Proofs
set_option maxRecDepth 100000
set_option maxHeartbeats 4000000
@[reducible] def zZ (c:CF):List TV:=[.s (.int .i64 c.chain),.s (.int .u64 c.aq),.own (.arr 1 true (c.nodes.map aR)),.s (.bool c.fresh),.s (.int .i64 c.join)]
@[reducible] def Cr (c:CF) (n:Nat):List TV:=[.s (.int .i64 c.chain),.s (.int .u64 c.aq),.tk n,.s (.bool c.fresh),.s (.int .i64 c.join)]
theorem To (c:CF) (hn:c.nodes.length<1000000):VC E0 36 0 [.agg (aF c)] [] (RR (.agg (Cr c 0)) 1 [(0,.arr 1 true (c.nodes.map aR))]):=by
 refine en L0 Tryz.f36 ?_;refine⟨[],[],_,_,_,_,iS c.nodes hn,t3,cw ?_⟩;exact⟨[],[some 2],_,_,_,t3,rfl,rfl,rfl⟩
def Cs (p:Nat→Bool) (i:Nat) (c:CF):List TV:=match p i with
 |true=>zZ c
 |false=>aF c
def v7 (p:Nat→Bool) (l:List CF):List (List TV):=l.mapIdx (Cs p)
def xz (p:Nat→Bool) (l:List CF) (j:Nat):List (List TV):=v7 p (l.take j)++List.replicate (l.length - j) UR
theorem fm (p:Nat→Bool) (l:List CF):(v7 p l).length=l.length:=by simp[v7]
theorem GY (p:Nat→Bool) (l:List CF) (j:Nat) (h:j≤l.length):(xz p l j).length=l.length:=by unfold xz;rw[List.length_append,fm];simp;omega
theorem Qe (p:Nat→Bool) (l:List CF) (j:Nat) (h:j<l.length):(xz p l j).set j (Cs p j l[j])=xz p l (j+1):=by
 unfold xz;have e:l.length - j=(l.length - (j+1))+1:=by omega
 have hlen:(v7 p (l.take j)).length=j:=by rw[fm,List.length_take];omega
 rw[e,List.replicate_succ,List.set_append,if_neg om,hlen,Nat.sub_self,List.take_succ_eq_append_getElem h];unfold v7;rw[List.mapIdx_concat,List.append_assoc,List.length_take,show min j l.length=j by omega];rfl
theorem GZ (p:Nat→Bool) (l:List CF) (j:Nat) (h:j<l.length):(xz p l j)[j]? =some UR:=by
 unfold xz;have e:l.length - j=(l.length - (j+1))+1:=by omega
 have hlen:(v7 p (l.take j)).length=j:=by rw[fm,List.length_take];omega
 rw[e,List.replicate_succ,List.getElem?_append_right om,hlen,Nat.sub_self];rfl
theorem Xh (p:Nat→Bool) (l:List CF):xz p l 0=List.replicate l.length UR:=by simp[xz,v7]
theorem Qf (p:Nat→Bool) (l:List CF):xz p l l.length=v7 p l:=by simp[xz]
theorem G0 (p:Nat→Bool) (l:List CF) (j:Nat) (h:j<l.length):(v7 p l)[j]? =some (Cs p j l[j]):=by simp[v7,h]
theorem Qg (p:Nat→Bool) (l:List CF) (hl:l.length<10000) (hn:∀c∈l,c.nodes.length<1000000):VC E0 20 0 [.sl 5 (l.map aF) false] [] (RR (.tk 0) 1 [(0,.bB 5 (v7 p l) [])]):=by
 refine en L0 Tryz.f20 ?_;refine⟨⟨om,om,by simp;omega⟩,?_⟩;refine wh ?_;refine⟨fun k f o c=>∃j:Nat,j≤l.length∧k=l.length - j∧c=1∧f=[(3,.tk 0),(9,.sl 5 (l.map aF) false),(10,.s (.int .i64 l.length)),(11,.s (.int .i64 j))]∧o=[(0,.bB 5 (xz p l j) [])],⟨l.length,?_⟩,?_⟩
 ·refine⟨[],[some 0],?_⟩
  iterate 3 constructor
  refine⟨⟨?_,?_,?_⟩,⟨0,Nat.zero_le _,rfl,rfl,rfl,rfl⟩⟩
  all_goals(repeat' first|exact LF|constructor)
  ·exact Lz.int (by rw[List.length_map])
  ·exact Lz.of (by rw[Xh];simp;exact .inr rfl)
 ·rintro k f1 o1 c1 ⟨j,hj,rfl,rfl,rfl,rfl⟩;refine wh ?_;refine sp ?_ ?_<;>intro h
  ·have h:j<l.length:=by have:(j:Int)<(l.length:Nat):=h
                         omega
   refine wh ?_;refine eT h ?_;refine wh ?_;have hs:=Qe p l j h;unfold Cs at hs;cases hp:p j
   ·rw[hp]at hs;refine⟨[],[],_,_,_,_,P4 l[j] (hn _ (List.getElem_mem h)),t3,cw ?_⟩;refine⟨⟨om,by rw[GY p l j hj];omega⟩,?_⟩;refine wh ?_;refine⟨UR,by rw[Int.toNat_natCast];exact GZ p l j h,?_⟩;refine wh ?_;refine⟨l.length - (j+1),?_,om⟩;refine⟨[],[some 0],_,_,_,⟨tq,.cons (.bB (ft:=[(_,aF l[j])]) .one (Lw.of ?_) (.q1 tq)) .nil,by rfl⟩,⟨j+1,h,rfl,rfl,rfl,rfl⟩⟩;exact(by rw[←hs,Int.toNat_natCast];rfl)
   ·rw[hp]at hs;refine⟨[],[],_,_,_,_,To l[j] (hn _ (List.getElem_mem h)),t3,cw ?_⟩;refine⟨⟨om,by rw[GY p l j hj];omega⟩,?_⟩;refine wh ?_;refine⟨UR,by rw[Int.toNat_natCast];exact GZ p l j h,?_⟩;refine wh ?_;refine⟨l.length - (j+1),?_,om⟩;refine⟨[],[some 0],_,_,_,⟨tq,.cons (.bB (ft:=[(_,zZ l[j])]) .one (Lw.of ?_) (.q1 tq)) .nil,by rfl⟩,⟨j+1,h,rfl,rfl,rfl,rfl⟩⟩;exact(by rw[←hs,Int.toNat_natCast];rfl)
  ·have Gv:j=l.length:=by have:¬(j:Int)<(l.length:Nat):=h
                          omega
   subst Gv;rw[Qf];refine wh ?_;exact⟨[],[some 0],_,_,_,t3,rfl,rfl,rfl⟩
def Rs (n m:Int):Bool:=decide (m=n)
theorem isC (n m:Int):VC E0 229 1 [.s (.int .i64 m),.ptr 0 0] (HD n) (RR (.s (.bool (Rs n m))) 1 (HD n)):=by
 refine en L0 Tryz.f229 ?_;refine sp ?_ ?_<;>intro h
 ·have h:m=n:=h;refine wh ?_;refine⟨[],[some 0],_,_,_,tx ?_,rfl,rfl,rfl⟩;exact Lz.of (ah (Eq.symm (decide_eq_true h)))
 ·have h:¬m=n:=h;refine wh ?_;refine⟨[],[some 0],_,_,_,tx ?_,rfl,rfl,rfl⟩;exact Lz.of (ah (Eq.symm (decide_eq_false h)))
@[reducible] def stR (n:Int) (vs:List Int):Ob:=[(0,.arr 1 true (vs.map aR)),(1,.cells [.s (.int .i64 n)])]
theorem Tp (n:Int) (vs:List Int) (hl:vs.length<1000000):VC E0 249 2 [.tk 0,.dc 229 [] [.ptr 1 0]] (stR n vs)
 (fun r o c=>∃i:Int,r= .s (.int .i64 i)∧c=2∧o=stR n vs∧((i= -1∧∀v∈vs,Rs n v=false)∨∃j:Nat,∃h:j<vs.length,i=j∧(∀v∈vs.take j,Rs n v=false)∧Rs n vs[j]=true)):=by
 refine en L0 Tryz.f249 ?_;refine⟨fun k f o c=>∃j:Nat,j≤vs.length∧k=vs.length - j∧(∀v∈vs.take j,Rs n v=false)∧c=2∧f=[(0,.tk 0),(1,.dc 229 [] [.ptr 1 0]),(7,.s (.int .i64 vs.length)),(8,.s (.int .i64 j))]∧o=stR n vs,⟨vs.length,?_⟩,?_⟩
 ·refine⟨[],[some 0,some 1],?_⟩
  iterate 3 constructor
  refine⟨⟨?_,?_,?_⟩,⟨0,Nat.zero_le _,rfl,by simp,rfl,rfl,rfl⟩⟩
  all_goals(repeat' first|exact LF|constructor)
  all_goals exact Lz.of (by simp[goInt])
 ·rintro k f1 o1 c1 ⟨j,hj,rfl,hb,rfl,rfl,rfl⟩;refine wh ?_;refine sp ?_ ?_<;>intro h
  ·have h:j<vs.length:=by simpa using h
   refine wh ?_;refine⟨⟨om,by simp;omega⟩,aR vs[j],by simp[h],?_⟩;refine wh ?_;refine⟨[],[some 1],_,_,_,_,isC n vs[j],t3,?_⟩;rintro r o' c' ⟨rfl,rfl,rfl⟩;have bm:=True.intro;clear bm;cases hv:Rs n vs[j]
   ·refine wh ?_;refine⟨vs.length - (j+1),?_,om⟩;exact⟨[],[some 0,some 1],_,_,_,t3,⟨j+1,h,rfl,by intro v pD;rw[List.take_succ_eq_append_getElem h]at pD;rcases List.mem_append.1 pD with h1|h1;exact hb v h1;simp at h1;subst h1;exact hv,rfl,rfl,rfl⟩⟩
   ·refine wh ?_;exact⟨[],[some 0,some 1],_,_,_,t3,(j:Int),rfl,rfl,rfl,.inr ⟨j,h,rfl,hb,hv⟩⟩
  ·have h':j=vs.length:=by have:¬j<vs.length:=by simpa using h
                           omega
   subst h';rw[List.take_length]at hb;refine wh ?_;exact⟨[],[some 0,some 1],_,_,_,t3,-1,rfl,rfl,rfl,.inl ⟨rfl,hb⟩⟩
theorem wZ {n:Int} {vs:List Int} (h:∀v∈vs,Rs n v=false):cg vs n=vs:=by
 unfold cg;rw[List.filter_eq_self];intro v hv;have:=of_decide_eq_false (h v hv);simpa using this
theorem w6 (n:Int) (vs:List Int) (j:Nat) (h:j<vs.length) (hb:Rs n vs[j]=true):cg (vs.take (j+1)) n=cg (vs.take j) n:=by
 rw[rZ _ _ _ h,if_pos (of_decide_eq_true hb),List.append_nil]
theorem Eh (n:Int) (vs:List Int) (j:Nat) (h:j<vs.length) (hb:Rs n vs[j]=false):cg (vs.take (j+1)) n=cg (vs.take j) n++[vs[j]]:=by
 rw[rZ _ _ _ h,if_neg (of_decide_eq_false hb)]
theorem Ei (n:Int) (vs:List Int) (hl:vs.length<1000000):VC E0 228 2 [.tk 0,.dc 229 [] [.ptr 1 0]] (stR n vs)
 (RR (.sl 1 ((cg vs n).map aR) false) 2 [(1,.cells [.s (.int .i64 n)])]):=by
 refine en L0 Tryz.f228 ?_;refine⟨[],[some 0,some 1],_,_,_,_,Tp n vs hl,t3,?_⟩;rintro r o' c' ⟨i0,rfl,rfl,rfl,Uy⟩;refine wh ?_;refine sp ?_ ?_<;>intro hm
 ·have hm:i0= -1:=hm;rcases Uy with⟨_,cC⟩|⟨j,h,e,_,_⟩
  ·refine wh ?_;refine⟨[0],[some 0,some 1],?_⟩
   iterate 3 constructor
   refine⟨⟨?_,?_,?_⟩,rfl,rfl,rfl⟩
   all_goals(repeat' first|exact LF|constructor)
   rw[wZ cC];exact Lz.rfl
  ·omega
 ·have hm:¬i0= -1:=hm;rcases Uy with⟨e,_⟩|⟨j0,h0,rfl,we,V4⟩
  ·exact absurd e hm
  refine wh ?_;refine⟨fun k f o c=>∃(i j:Nat) (ws:List Int),i<j∧j≤vs.length∧k=vs.length - j∧ws.length=vs.length∧ws.take i=cg (vs.take j) n∧ws.drop j=vs.drop j∧c=2∧f=[(0,.tk 0),(1,.dc 229 [] [.ptr 1 0]),(5,.s (.int .i64 i)),(6,.s (.int .i64 j))]∧o=stR n ws,⟨vs.length - (j0+1),?_⟩,?_⟩
  ·exact⟨[],[some 0,some 1],_,_,_,t3,⟨j0,j0+1,vs,om,h0,rfl,rfl,(by rw[w6 _ _ _ h0 V4];exact(wZ we).symm),rfl,rfl,rfl,rfl⟩⟩
  ·rintro k f1 o1 c1 ⟨i,j,ws,YU,hj,rfl,hlen,uU,hdr,rfl,rfl,rfl⟩;refine wh ?_;refine sp ?_ ?_<;>intro h
   ·have h:j<vs.length:=by rw[List.length_map,hlen]at h;omega
    have hw:ws[j]? =some vs[j]:=by
     have:=congrArg (fun l=>l[0]?) hdr;simpa[h]using this
    have PL:ws.drop (j+1)=vs.drop (j+1):=by
     have:=congrArg (List.drop 1) hdr;simpa[List.drop_drop,Nat.add_comm]using this
    refine wh ?_;refine⟨⟨om,by simp;omega⟩,aR vs[j],by simp[hw],?_⟩;refine wh ?_;refine⟨[],[some 1],_,_,_,_,isC n vs[j],t3,?_⟩;rintro r o' c' ⟨rfl,rfl,rfl⟩;have bm:=True.intro;clear bm;cases hv:Rs n vs[j]
    ·refine wh ?_;refine⟨⟨om,by simp;omega⟩,aR (ws[i]' om),by simp[show i<ws.length by omega],?_⟩;refine wh ?_;refine⟨vs.length - (j+1),?_,om⟩;refine⟨[],[some 0,some 1],?_⟩
     iterate 3 constructor
     refine⟨⟨?_,?_,?_⟩,⟨i+1,j+1,ws.set i vs[j],om,h,rfl,by simpa using hlen,(by rw[Eh _ _ _ h hv,List.take_succ_eq_append_getElem (by simp;omega),List.take_set_of_le (Nat.le_refl _),uU];simp),(by rw[List.drop_set_of_lt om];exact PL),rfl,rfl,rfl⟩⟩
     all_goals(repeat' first|exact LF|constructor)
     refine Lz.of ?_;rw[List.map_set];rfl
    ·refine wh ?_;refine⟨vs.length - (j+1),?_,om⟩;exact⟨[],[some 0,some 1],_,_,_,t3,⟨i,j+1,ws,om,h,rfl,hlen,(by rw[w6 _ _ _ h hv];exact uU),PL,rfl,rfl,rfl⟩⟩
   ·have h':j=vs.length:=by have:¬(j:Int)<(((ws.map aR).length:Nat):Int):=h
                            rw[List.length_map,hlen]at this;omega
    subst h';rw[List.take_length]at uU;refine wh ?_;refine⟨⟨om,by simp;try omega,by simp⟩,.inr ?_⟩;refine wh ?_;refine⟨fun hc=>absurd hc (by simp;omega),fun _=>?_⟩;refine wh ?_;refine⟨⟨om,by simp;try omega,by simp;try omega⟩,.inl ?_⟩;refine wh ?_;refine⟨[],[some 0,some 1],?_⟩
    iterate 3 constructor
    refine⟨⟨?_,?_,?_⟩,rfl,rfl,rfl⟩
    all_goals(repeat' first|exact LF|constructor)
    refine Lz.of ?_;rw[←uU];simp[show i≤ws.length by omega]
theorem aaz {l:List Int} {K:List TV→Prop} (h:1≤l.length∧l.length≤5) (hK:K (aR (l.getLast?.getD 0))):(0≤IntKind.i64.wrap ((((l.map aR).length:Nat):Int) - 1)∧IntKind.i64.wrap ((((l.map aR).length:Nat):Int) - 1)<(((l.map aR).length:Nat):Int))∧∃e,(l.map aR)[(IntKind.i64.wrap ((((l.map aR).length:Nat):Int) - 1)).toNat]? =some e∧K e:=by
 obtain⟨e,⟨h0,h1⟩,h2⟩:=UO h hK;refine⟨⟨h0,?_⟩,e,h1,h2⟩;have:=(List.getElem?_eq_some_iff.1 h1).1;omega
theorem Qh (c:CF) (h5:1≤c.nodes.length∧c.nodes.length≤5):VC E0 227 1 [.agg (Cr c 0)] [(0,.arr 1 true (c.nodes.map aR))] (RR (.s (.int .i64 (iT c))) 1 [(0,.arr 1 true (c.nodes.map aR))]):=by
 refine en L0 Tryz.f227 ?_;refine aaz h5 ?_;refine wh ?_;exact⟨[],[some 0],_,_,_,t3,rfl,rfl,rfl⟩
@[reducible] def stM (c:CF):Ob:=[(0,.arr 1 true (c.nodes.map aR))]
def nF (x:CF) (k n:Int):CF:=
 if k=1 then(if x.join=n then⟨x.chain,x.aq,x.nodes,x.fresh,0⟩else⟨x.chain,x.aq,cg x.nodes n,x.fresh&&decide (iT x≠n),x.join⟩)
 else if k=2 then⟨x.chain,x.aq,x.nodes,x.fresh,n⟩
 else if k=3 then⟨x.chain,x.aq,x.nodes++[n],true,0⟩
 else⟨x.chain,x.aq,x.nodes,false,x.join⟩
theorem Qi (x:CF) (k n:Int):mi x k n=⟨(nF x k n).chain,(nF x k n).aq+1,(nF x k n).nodes,(nF x k n).fresh,(nF x k n).join⟩:=by
 unfold mi nF
 repeat' split
 all_goals rfl
theorem My (x:CF) (n:Int) (h5:1≤x.nodes.length∧x.nodes.length≤5):VC E0 191 1 [.agg (Cr x 0),.s (.int .i64 n)] (stM x) (RR (.agg (aF (nF x 1 n))) 1 []):=by
 refine en L0 Tryz.f191 ?_;refine sp ?_ ?_<;>intro hj
 ·have hj:x.join=n:=hj;have hC:nF x 1 n=⟨x.chain,x.aq,x.nodes,x.fresh,0⟩:=by unfold nF;rw[if_pos rfl,if_pos hj]
  rw[hC];refine wh ?_;exact⟨[0],[some 0],_,_,_,t3,rfl,rfl,rfl⟩
 ·have hj:¬x.join=n:=hj;have hC:nF x 1 n=⟨x.chain,x.aq,cg x.nodes n,x.fresh&&decide (iT x≠n),x.join⟩:=by unfold nF;rw[if_pos rfl,if_neg hj]
  rw[hC];refine wh ?_;cases hf:x.fresh
  ·refine wh ?_;refine⟨[],[some 0,some 2],_,_,_,_,Ei n x.nodes om,t3,?_⟩;rintro r o' c' ⟨rfl,rfl,rfl⟩;refine wh ?_;exact⟨[],[some 0],_,_,_,t3,rfl,rfl,rfl⟩
  ·refine wh ?_;refine⟨[],[some 0],_,_,_,_,Qh ⟨x.chain,x.aq,x.nodes,true,x.join⟩ h5,t3,?_⟩;rintro r o' c' ⟨rfl,rfl,rfl⟩;refine wh ?_;have hll:iT ⟨x.chain,x.aq,x.nodes,true,x.join⟩=iT x:=rfl;refine sp ?_ ?_<;>intro Is
   ·have Is:iT x≠n:=Is;refine wh ?_;refine⟨[],[some 0,some 2],_,_,_,_,Ei n x.nodes om,t3,?_⟩;rintro r o' c' ⟨rfl,rfl,rfl⟩;refine wh ?_;refine⟨[],[some 0],_,_,_,tx ?_,rfl,rfl,rfl⟩;exact Lz.of (ah (by simp[Is]))
   ·have Is:¬iT x≠n:=Is;refine wh ?_;refine⟨[],[some 0,some 2],_,_,_,_,Ei n x.nodes om,t3,?_⟩;rintro r o' c' ⟨rfl,rfl,rfl⟩;refine wh ?_;refine⟨[],[some 0],_,_,_,tx ?_,rfl,rfl,rfl⟩;exact Lz.of (ah (by simpa using Is))
theorem Tq (x:CF) (n:Int):VC E0 193 1 [.agg (Cr x 0),.s (.int .i64 n)] (stM x) (RR (.agg (aF (nF x 2 n))) 1 []):=by
 refine en L0 Tryz.f193 ?_;exact⟨[0],[some 0],_,_,_,t3,rfl,rfl,rfl⟩
theorem Jl (x:CF) (n:Int) (h5:x.nodes.length≤5):VC E0 195 1 [.agg (Cr x 0),.s (.int .i64 n)] (stM x) (RR (.agg (aF (nF x 3 n))) 1 []):=by
 have hC:nF x 3 n=⟨x.chain,x.aq,x.nodes++[n],true,0⟩:=by unfold nF;rw[if_neg (by decide),if_neg (by decide),if_pos rfl]
 rw[hC];refine en L0 Tryz.f195 ?_;refine⟨by simp;omega,?_⟩;refine wh ?_;refine⟨[4],[some 0],_,_,_,tx ?_,rfl,rfl,rfl⟩;exact Lz.of (by simp)
theorem Mz (x:CF) (k n:Int) (k1:k≠1) (k2:k≠2) (k3:k≠3):VC E0 197 1 [.agg (Cr x 0),.s (.int .i64 n)] (stM x) (RR (.agg (aF (nF x k n))) 1 []):=by
 have hC:nF x k n=⟨x.chain,x.aq,x.nodes,false,x.join⟩:=by unfold nF;rw[if_neg k1,if_neg k2,if_neg k3]
 rw[hC];refine en L0 Tryz.f197 ?_;exact⟨[0],[some 0],_,_,_,t3,rfl,rfl,rfl⟩
theorem aaA (k:Int) (h:k=1):VC E0 142 0 [.s (.int .i64 k)] [] (RR (.agg [.dc 190 [] [],.dc 191 [] []]) 0 []):=by subst h;exact PY
theorem aaB (k:Int) (h:k=2):VC E0 142 0 [.s (.int .i64 k)] [] (RR (.agg [.dc 192 [] [],.dc 193 [] []]) 0 []):=by subst h;exact PZ
theorem aaC (k:Int) (h:k=3):VC E0 142 0 [.s (.int .i64 k)] [] (RR (.agg [.dc 194 [] [],.dc 195 [] []]) 0 []):=by subst h;exact P0
theorem uF (l:List CF) (i:Nat) (h:i<l.length) (x:CF):(v7 (fun j=>Nat.beq j i) l).set i (aF x)=(l.set i x).map aF:=by
 apply List.ext_getElem?;intro j;rw[List.getElem?_set,List.getElem?_map,List.getElem?_set];by_cases e:i=j
 ·subst e;simp[fm,h]
 ·rw[if_neg e,if_neg e];by_cases hj:j<l.length
  ·rw[G0 _ _ _ hj,List.getElem?_eq_getElem hj];have hb:Nat.beq j i=false:=by
    cases hq:Nat.beq j i with
    |false=>rfl
    |true=>rw[beq_iff]at hq;omega
   unfold Cs;simp only[hb];rfl
  ·rw[List.getElem?_eq_none (by rw[fm];omega),List.getElem?_eq_none om];rfl
theorem xX (l:List CF) (i:Nat) (h:i<l.length):(v7 (fun j=>Nat.beq j i) l)[i]? =some (zZ l[i]):=by
 rw[G0 _ _ _ h];unfold Cs;simp only[beq_iff.2 (rfl:i=i)]
theorem uG (l:List CF):∀e∈l.map aF,∀t∈e,fz t=true:=by
 intro e he t ht;obtain⟨x,_,rfl⟩:=List.mem_map.1 he;simp only[aF,List.mem_cons,List.not_mem_nil,or_false]at ht;rcases ht with rfl |rfl |rfl |rfl |rfl<;>rfl
theorem Xi (x:CF) (k n:Int):(nF x k n).aq=x.aq:=by
 unfold nF
 repeat' split
 all_goals rfl
theorem Xj (l:List CF) (c:cA) (hl:l.length<10000) (hn:∀c∈l,c.nodes.length<1000000) (WJ:∀c∈l,0≤c.aq∧c.aq≤18446744073709551615):
 VC E0 189 0 [.sl 5 (l.map aF) false,Ky c] [] (RR (.dk [.tk 0,.s (.bool (mD l c).2)]) 1 [(0,.arr 5 true ((mD l c).1.map aF))]):=by
 by_cases h:jU l c=0
 ·by_cases h0:c.kind=0
  ·have hC:mD l c=(l,true):=by unfold mD;rw[if_neg (fun q=>q h),if_pos h0]
   rw[hC];refine en L0 Tryz.f189 ?_;refine⟨[],[],_,_,_,_,uD l hl hn,t3,cw ?_⟩;refine⟨[],[],_,_,_,_,Eb l c,t3,cw ?_⟩;refine sp ?_ ?_<;>intro q
   ·exact absurd h q
   refine wh ?_;refine sp ?_ ?_<;>intro q2
   ·exact absurd h0 q2
   refine wh ?_;exact⟨[],[some 1],_,_,_,t3,rfl,rfl,rfl⟩
  ·obtain⟨ha,hk,aN,hm⟩:=Ec h h0;have mH:=oj hk h0;have NH:=WJ _ (List.getElem_mem aN);have hrx:=ke ha (List.getElem_mem aN);have h5:=hrx.2.2.1;have hC:mD l c=(l.set c.chain.toNat (mi l[c.chain.toNat] c.kind c.node),true):=by unfold mD;rw[if_neg (fun q=>q h),if_neg h0,List.getElem?_eq_getElem aN]
   have hw:IntKind.u64.wrap ((nF l[c.chain.toNat] c.kind c.node).aq+1)=(nF l[c.chain.toNat] c.kind c.node).aq+1:=by rw[Xi];exact IntWalk.u64_in _ om
   rw[hC,Qi];refine en L0 Tryz.f189 ?_;refine⟨[],[],_,_,_,_,Qg (fun j=>Nat.beq j c.chain.toNat) l hl hn,t3,cw ?_⟩;refine⟨[],[],_,_,_,_,Eb l c,t3,cw ?_⟩;refine sp ?_ ?_<;>intro q
   ·exact absurd h q
   refine wh ?_;refine sp ?_ ?_<;>intro q2
   ·refine wh ?_;by_cases k1:c.kind=1
    ·refine⟨[],[],_,_,_,_,aaA c.kind k1,t3,?_⟩;have Rt:=My l[c.chain.toNat] c.node h5;rw[←k1]at Rt;rintro r o' c' ⟨rfl,rfl,rfl⟩;refine wh ?_;refine⟨⟨mH.1,by rw[fm];omega⟩,?_⟩;refine wh ?_;refine⟨zZ l[c.chain.toNat],xX l _ aN,?_⟩;refine wh ?_;refine⟨[],[some 2],_,_,_,_,Rt,t3,cw ?_⟩;refine⟨⟨mH.1,by rw[fm];omega⟩,?_⟩;refine wh ?_;refine⟨fun _=>?_,fun q=>absurd rfl q⟩;refine wh ?_
     refine⟨[],[some 1],_,_,_,⟨tq,.cons (.A5 (ft:=[(_,aF ⟨(nF l[c.chain.toNat] c.kind c.node).chain,(nF l[c.chain.toNat] c.kind c.node).aq+1,(nF l[c.chain.toNat] c.kind c.node).nodes,(nF l[c.chain.toNat] c.kind c.node).fresh,(nF l[c.chain.toNat] c.kind c.node).join⟩)]) .one (Lw.of (uF l c.chain.toNat aN _)) (uG _) (.q1 (by(repeat' first|exact LF|constructor);exact Lz.int hw))) .nil,by rfl⟩,rfl,rfl,rfl⟩
    by_cases k2:c.kind=2
    ·refine⟨[],[],_,_,_,_,aaB c.kind k2,t3,?_⟩;have Rt:=Tq l[c.chain.toNat] c.node;rw[←k2]at Rt;rintro r o' c' ⟨rfl,rfl,rfl⟩;refine wh ?_;refine⟨⟨mH.1,by rw[fm];omega⟩,?_⟩;refine wh ?_;refine⟨zZ l[c.chain.toNat],xX l _ aN,?_⟩;refine wh ?_;refine⟨[],[some 2],_,_,_,_,Rt,t3,cw ?_⟩;refine⟨⟨mH.1,by rw[fm];omega⟩,?_⟩;refine wh ?_;refine⟨fun _=>?_,fun q=>absurd rfl q⟩;refine wh ?_
     refine⟨[],[some 1],_,_,_,⟨tq,.cons (.A5 (ft:=[(_,aF ⟨(nF l[c.chain.toNat] c.kind c.node).chain,(nF l[c.chain.toNat] c.kind c.node).aq+1,(nF l[c.chain.toNat] c.kind c.node).nodes,(nF l[c.chain.toNat] c.kind c.node).fresh,(nF l[c.chain.toNat] c.kind c.node).join⟩)]) .one (Lw.of (uF l c.chain.toNat aN _)) (uG _) (.q1 (by(repeat' first|exact LF|constructor);exact Lz.int hw))) .nil,by rfl⟩,rfl,rfl,rfl⟩
    by_cases k3:c.kind=3
    ·refine⟨[],[],_,_,_,_,aaC c.kind k3,t3,?_⟩;have Rt:=Jl l[c.chain.toNat] c.node h5.2;rw[←k3]at Rt;rintro r o' c' ⟨rfl,rfl,rfl⟩;refine wh ?_;refine⟨⟨mH.1,by rw[fm];omega⟩,?_⟩;refine wh ?_;refine⟨zZ l[c.chain.toNat],xX l _ aN,?_⟩;refine wh ?_;refine⟨[],[some 2],_,_,_,_,Rt,t3,cw ?_⟩;refine⟨⟨mH.1,by rw[fm];omega⟩,?_⟩;refine wh ?_;refine⟨fun _=>?_,fun q=>absurd rfl q⟩;refine wh ?_
     refine⟨[],[some 1],_,_,_,⟨tq,.cons (.A5 (ft:=[(_,aF ⟨(nF l[c.chain.toNat] c.kind c.node).chain,(nF l[c.chain.toNat] c.kind c.node).aq+1,(nF l[c.chain.toNat] c.kind c.node).nodes,(nF l[c.chain.toNat] c.kind c.node).fresh,(nF l[c.chain.toNat] c.kind c.node).join⟩)]) .one (Lw.of (uF l c.chain.toNat aN _)) (uG _) (.q1 (by(repeat' first|exact LF|constructor);exact Lz.int hw))) .nil,by rfl⟩,rfl,rfl,rfl⟩
    ·refine⟨[],[],_,_,_,_,P1 c.kind k1 k2 k3,t3,?_⟩;have Rt:=Mz l[c.chain.toNat] c.kind c.node k1 k2 k3;rintro r o' c' ⟨rfl,rfl,rfl⟩;refine wh ?_;refine⟨⟨mH.1,by rw[fm];omega⟩,?_⟩;refine wh ?_;refine⟨zZ l[c.chain.toNat],xX l _ aN,?_⟩;refine wh ?_;refine⟨[],[some 2],_,_,_,_,Rt,t3,cw ?_⟩;refine⟨⟨mH.1,by rw[fm];omega⟩,?_⟩;refine wh ?_;refine⟨fun _=>?_,fun q=>absurd rfl q⟩;refine wh ?_
     refine⟨[],[some 1],_,_,_,⟨tq,.cons (.A5 (ft:=[(_,aF ⟨(nF l[c.chain.toNat] c.kind c.node).chain,(nF l[c.chain.toNat] c.kind c.node).aq+1,(nF l[c.chain.toNat] c.kind c.node).nodes,(nF l[c.chain.toNat] c.kind c.node).fresh,(nF l[c.chain.toNat] c.kind c.node).join⟩)]) .one (Lw.of (uF l c.chain.toNat aN _)) (uG _) (.q1 (by(repeat' first|exact LF|constructor);exact Lz.int hw))) .nil,by rfl⟩,rfl,rfl,rfl⟩
   ·exact absurd h0 (fun q=>q2 q)
 ·have hC:mD l c=(l,false):=by unfold mD;rw[if_pos h]
  rw[hC];refine en L0 Tryz.f189 ?_;refine⟨[],[],_,_,_,_,uD l hl hn,t3,cw ?_⟩;refine⟨[],[],_,_,_,_,Eb l c,t3,cw ?_⟩;refine sp ?_ ?_<;>intro q
  ·refine wh ?_;exact⟨[],[some 1],_,_,_,t3,rfl,rfl,rfl⟩
  ·exact absurd (Classical.not_not.1 q) h
theorem Ts {K:List ak} (h:SS K) (v:ak) (s:Int):pz (put K v) s=if s=v.slot then some v else pz K s:=by
 have hp:SS (put K v):=zJ h;split
 ·rename_i e;subst e;exact(fi hp).2 ⟨(gl h).2 (.inl rfl),rfl⟩
 ·rename_i e;cases ha:pz K s with
  |none=>
   cases hb:pz (put K v) s with
   |none=>rfl
   |some w=>
    obtain⟨h1,h2⟩:=(fi hp).1 hb;rcases(gl h).1 h1 with rfl |⟨_,h3⟩
    ·exact absurd h2.symm e
    ·have:=(fi h).2 ⟨h3,h2⟩;rw[ha]at this;cases this
  |some w=>
   obtain⟨h1,h2⟩:=(fi h).1 ha;exact(fi hp).2 ⟨(gl h).2 (.inr ⟨by rw[h2];exact e,h1⟩),h2⟩
theorem Qj:∀{l:List ak} {a b:Int},SS l→(∀v∈l,a≤v.slot∧v.slot<b)→(l.length:Int)≤max (b - a) 0
 |[],a,b,_,_=>by simp;omega
 |x::l,a,b,h,hr=>by
  obtain⟨h1,h2⟩:=List.pairwise_cons.1 h;have hx:=hr x List.mem_cons_self;have:=Qj (a:=a+1) (b:=b) h2 (fun v hv=>by
   have:=h1 v hv;have:=hr v (List.mem_cons_of_mem _ hv);omega)
  rw[List.length_cons];omega
theorem AN.put {K:List ak} (h:AN K) {slot:Int} {c:cA} (hs:0≤slot∧slot<512) (hc:0≤c.aq):AN (put K (.of slot 0 c)):=by
 have hS:SS (M.put K (.of slot 0 c)):=zJ h.ss;have hr:∀v∈M.put K (.of slot 0 c),0≤v.slot∧v.slot<512:=fun v hv=>by
  rcases(gl h.ss).1 hv with rfl |⟨_,q⟩
  ·exact hs
  ·exact h.l6 v q
 refine⟨hS,hr,?_,fun v hv=>?_⟩
 ·have:=Qj hS hr;omega
 ·rcases(gl h.ss).1 hv with rfl |⟨_,q⟩
  ·exact hc
  ·exact h.ep v q
theorem Qk:∀(l:List ak) (n:Nat),SS l→(∀x∈l,(n:Int)≤x.slot)→(∀i:Nat,n+i<nf n l→∃v,l[i]? =some v∧v.slot=((n+i:Nat):Int))∧∀x∈l,x.slot≠((nf n l:Nat):Int)
 |[],n,_,_=>⟨fun i h=>by simp only[nf]at h;omega,by simp⟩
 |x::l,n,hS,xI=>by
  obtain⟨WL,xy⟩:=List.pairwise_cons.1 hS;by_cases hx:x.slot=(n:Int)
  ·have ih:=Qk l (n+1) xy (fun y hy=>by have:=WL y hy;omega);have e:nf n (x::l)=nf (n+1) l:=by rw[nf,if_pos hx]
   have hg:=KG l (n+1);rw[e];refine⟨fun i hi=>?_,fun y hy=>?_⟩
   ·cases i with
    |zero=>exact⟨x,rfl,by simpa using hx⟩
    |succ i=>
     obtain⟨v,h1,h2⟩:=ih.1 i om;exact⟨v,by simpa using h1,by rw[h2];congr 1;omega⟩
   ·rcases List.mem_cons.1 hy with rfl |hy
    ·omega
    ·exact ih.2 y hy
  ·have e:nf n (x::l)=n:=by rw[nf,if_neg hx]
   rw[e];refine⟨fun i hi=>by omega,fun y hy=>?_⟩;have h0:=xI x List.mem_cons_self;rcases List.mem_cons.1 hy with rfl |hy
   ·exact hx
   ·have:=WL y hy;omega
theorem Tt {K:List ak} (h:AN K) {n:Nat} (hn:n<aK K):∃v,K[n]? =some v∧pz K (n:Int)=some v:=by
 rw[mj]at hn;obtain⟨v,h1,h2⟩:=(Qk K 0 h.ss (fun x hx=>by simpa using(h.l6 x hx).1)).1 n om;exact⟨v,h1,(fi h.ss).2 ⟨List.mem_of_getElem? h1,by rw[h2];congr 1;omega⟩⟩
theorem MA {K:List ak} (h:AN K):pz K ((aK K:Nat):Int)=none:=by
 have:=(Qk K 0 h.ss (fun x hx=>by simpa using(h.l6 x hx).1)).2;rw[←mj]at this;cases hq:pz K ((aK K:Nat):Int)with
 |none=>rfl
 |some v=>
  obtain⟨h1,h2⟩:=(fi h.ss).1 hq;exact absurd h2 (this v h1)
theorem Aa:∀{K:List ak},SS K→K≠[]→(∀x∈K,x.slot+1≤oq K)∧∃x∈K,x.slot+1=oq K
 |[],_,h=>absurd rfl h
 |[x],_,_=>by simp[oq]
 |x::y::l,h,_=>by
  have e:oq (x::y::l)=oq (y::l):=by unfold oq;rw[List.getLast?_cons_cons]
  obtain⟨h1,h2⟩:=List.pairwise_cons.1 h;obtain⟨a,z,hz,hze⟩:=Aa h2 (by simp);rw[e];refine⟨fun w hw=>?_,z,List.mem_cons_of_mem _ hz,hze⟩;rcases List.mem_cons.1 hw with rfl |hw
  ·have:=h1 z hz;omega
  ·exact a w hw
theorem Ql {K:List ak} (h:SS K) (v:ak) (h0:0≤v.slot):oq (put K v)=max (oq K) (v.slot+1):=by
 have hp:SS (put K v):=zJ h;have hv:v∈put K v:=(gl h).2 (.inl rfl);obtain⟨a,x,hx,LN⟩:=Aa hp (fun e=>by rw[e]at hv;cases hv);have hvt:=a v hv;cases hK:K with
 |nil=>simp[put,oq];omega
 |cons y l=>
  rw[←hK];obtain⟨b,y,hy,hye⟩:=Aa h (by rw[hK];simp);have hyt:y.slot+1≤oq (put K v):=by
   by_cases e:y.slot=v.slot
   ·omega
   ·exact a y ((gl h).2 (.inr ⟨e,hy⟩))
  rcases(gl h).1 hx with rfl |⟨_,q⟩
  ·omega
  ·have:=b x q;omega
theorem Xk {l:List CF} {c:cA} (h:(mD l c).2=false):(mD l c).1=l:=by
 unfold mD at h ⊢;by_cases hc:jU l c≠0
 ·rw[if_pos hc]
 ·rw[if_neg hc]at h;by_cases hk:c.kind=0
  ·rw[if_pos hk]at h;cases h
  ·rw[if_neg hk]at h;split at h<;>cases h
theorem aaD {l:List CF} {c:cA} (hk:c.kind=0):(mD l c).1=l:=by
 unfold mD;by_cases hc:jU l c≠0
 ·rw[if_pos hc]
 ·rw[if_neg hc,if_pos hk]
theorem Ct {K:List ak} {l:List CF} {n:Nat} {v:ak} (hv:K[n]? =some v) (h:(mD (bf K l n).2 (ao v)).2=false∨v.kind=0):bf K l (n+1)=bf K l n:=by
 have e:(mD (bf K l n).2 (ao v)).1=(bf K l n).2:=by
  rcases h with h|h
  ·exact Xk h
  ·exact aaD h
 rw[bf,hv];dsimp only
 rw[if_neg (by rcases h with h|h<;>simp[h]),e]
theorem MB {K:List ak} {l:List CF} {n:Nat} {v:ak} (hv:K[n]? =some v) (h:(mD (bf K l n).2 (ao v)).2=true) (hk:v.kind≠0) (aN:v.chain.toNat<(mD (bf K l n).2 (ao v)).1.length):
 bf K l (n+1)=((bf K l n).1++[(mD (bf K l n).2 (ao v)).1[v.chain.toNat]],(mD (bf K l n).2 (ao v)).1):=by
 rw[bf,hv];dsimp only
 rw[if_pos ⟨h,hk⟩,List.getElem?_eq_getElem aN];rfl
theorem pa {K:List ak} (h:AN K) {l:List CF} {slot:Int} {c:cA} (hs:0≤slot) (ho:other K slot c=false):aK K≤aK (put K (.of slot 0 c))∧bf (put K (.of slot 0 c)) l (aK K)=bf K l (aK K):=by
 have hp:=Jj (.of slot 0 c) K 0 h.ss (fun v hv=>(h.l6 v hv).1) hs (fun v hv e=>by
  have EI:pz K slot=some v:=(fi h.ss).2 ⟨hv,e⟩;unfold other at ho;rw[EI]at ho;have:kW (ao v) c=true:=by simpa using ho
  exact vY.1 this)
 rw[←mj,←mj]at hp;exact⟨hp.1,(sX (K':=put K (.of slot 0 c)) (fun i hi=>hp.2 i om)).symm⟩
theorem G1 (x:CF) (k n:Int):(mi x k n).aq=x.aq+1∧(mi x k n).chain=x.chain:=by
 unfold mi
 repeat' split
 all_goals exact⟨rfl,rfl⟩
structure okW (K:List ak):Prop where
 ok:AN K
 of:∀v∈K,v= .of v.slot 0 (ao v)
 ck:∀v∈K,(ao v).check=0
theorem okW.nil:okW []:=⟨⟨.nil,by simp,by simp,by simp⟩,by simp,by simp⟩
theorem okW.put {K:List ak} (h:okW K) {slot:Int} {c:cA} (hs:0≤slot∧slot<512) (hc:0≤c.aq) (hk:c.check=0):okW (put K (.of slot 0 c)):=by
 refine⟨h.ok.put hs hc,fun v hv=>?_,fun v hv=>?_⟩
 ·rcases(gl h.ok.ss).1 hv with rfl |⟨_,q⟩
  ·rfl
  ·exact h.of v q
 ·rcases(gl h.ok.ss).1 hv with rfl |⟨_,q⟩
  ·exact hk
  ·exact h.ck v q
theorem okW.take {K:List ak} (h:okW K) (i:Nat):okW (K.take i):=
 ⟨⟨h.ok.ss.sublist (List.take_sublist i K),fun v hv=>h.ok.l6 v (List.mem_of_mem_take hv),by have:=h.ok.len;rw[List.length_take];omega,fun v hv=>h.ok.ep v (List.mem_of_mem_take hv)⟩,fun v hv=>h.of v (List.mem_of_mem_take hv),fun v hv=>h.ck v (List.mem_of_mem_take hv)⟩
instance (c:CF):Decidable (iH c):=by unfold iH;exact inferInstance
instance (l:List CF):Decidable (wX l):=by unfold wX;exact inferInstance
instance (l:List CF):Decidable (fU l):=by unfold fU;exact inferInstance
theorem MD:∀ch<5,∀fA<6,1≤ch→1≤fA→fU (iI fA ch):=by decide+kernel
theorem ME {fA ch:Nat} (h:ch≤4) (h2:fA≤5):HE (iI fA ch):=by
 refine⟨by simp[iI];omega,fun c hc=>?_,fun c hc=>?_⟩
 ·obtain⟨i,_,rfl⟩:=List.mem_map.1 hc;exact⟨by show(0:Int)≤1;omega,by show(1:Int)≤_;omega⟩
 ·obtain⟨i,_,rfl⟩:=List.mem_map.1 hc;show(qD (i*fA) fA).length≤6;simp[qD];omega
theorem Qm (l:List CF) (hl:l.length<10000) (hn:∀c∈l,c.nodes.length<1000000):VC E0 20 0 [.sl 5 (l.map aF) false] [] (RR (.tk 0) 1 [(0,.arr 5 true (l.map aF))]):=uD l hl hn
@[reducible] noncomputable def UT (kn:List (Int×cA)) (top:Int) (K:List ak) (l:List CF) (n:Nat):pM:=⟨kn,n,top,(bf K l n).1.length,(bf K l n).2⟩
noncomputable def MF (K:List ak) (l:List CF) (n0:Nat):List CF:=(bf K l (aK K)).1.drop (bf K l n0).1.length
theorem xY {K:List ak} {l:List CF} (hl:HE l):∀n,∀c∈(bf K l n).1,c.nodes.length≤6
 |0,c,hc=>by cases hc
 |n+1,c,hc=>by
  have ih:=xY (K:=K) hl n;have fG:=(hl.aV K n);cases hv:K[n]? with
  |none=>rw[bf,hv]at hc;exact ih c hc
  |some v=>
   rw[bf,hv]at hc;dsimp only at hc;split at hc
   ·rcases List.mem_append.1 hc with h|h
    ·exact ih c h
    ·exact(fG.do (ao v)).n6 c (by
      cases hq:(mD (bf K l n).2 (ao v)).1[v.chain.toNat]? with
      |none=>rw[hq]at h;simp at h
      |some y=>rw[hq]at h;simp at h;subst h;exact List.mem_of_getElem? hq)
   ·exact ih c hc
theorem Qn {K:List ak} {l:List CF} (hK:AN K) (hl:HE l) (n0:Nat) (hn:n0≤aK K) (kn:List (Int×cA)) (mV:∀s,bL kn s=(pz K s).map ao) (top:Int):
 VC E0 141 2 [.ptr 0 0] (EL (UT kn top K l n0)) (RR (.tk 2) 3 [(0,zW (UT kn top K l (aK K)) 1),(1,kM (UT kn top K l (aK K))),(2,.arr 5 true ((MF K l n0).map aF))]):=by
 have aeJ:=hK.len;have hnK:=zV K;refine en L0 Tryz.f141 ?_;refine⟨fun kk f o c=>∃(n:Nat) (es:List (List TV)),n0≤n∧n≤aK K∧kk=aK K - n∧es=((bf K l n).1.drop (bf K l n0).1.length).map aF∧c=3∧f=[(0,.ptr 0 0),(3,.tk 2)]∧o=[(0,zW (UT kn top K l n) 1),(1,kM (UT kn top K l n)),(2,.arr 5 true es)],⟨aK K - n0,?_⟩,?_⟩
 ·exact⟨[],[some 0,some 1,none],_,_,_,t3,⟨n0,[],Nat.le_refl _,hn,rfl,by rw[List.drop_length];rfl,rfl,rfl,rfl⟩⟩
 ·rintro kk f1 o1 c1 ⟨n,es,h1,h2,rfl,fT,rfl,rfl,rfl⟩;have nS:=m3 .i64 .i64 qF (n:Int) kn;rw[mV]at nS;have fG:=hl.aV K n;have b6:=rB K l n;have UA:es.length<1000:=by rw[fT];simp;omega
  refine wh ?_;by_cases aN:n<aK K
  ·obtain⟨v,pJ,HX⟩:=Tt hK aN;have zR:=hK.ep v (List.mem_of_getElem? pJ);rw[HX]at nS;refine⟨_,nS,?_⟩;refine wh ?_;refine⟨[],[],_,_,_,_,Xj (bf K l n).2 (ao v) (by have:=fG.len;omega) (fun c hc=>by have:=fG.n6 c hc;omega) fG.ep,t3,?_⟩;rintro r o' c' ⟨rfl,rfl,rfl⟩;cases hd:(mD (bf K l n).2 (ao v)).2
   ·have hs:=Ct (l:=l) pJ (.inl hd);refine wh ?_;refine⟨aK K - (n+1),?_,om⟩;refine⟨[],[some 0,some 1,some 2],?_⟩
    iterate 3 constructor
    refine⟨⟨?_,?_,?_⟩,⟨n+1,es,om,by omega,rfl,by rw[hs];exact fT,rfl,rfl,rfl⟩⟩
    all_goals(repeat' first|exact LF|constructor)
    all_goals exact Lz.of (by simp only[hs])
   ·refine wh ?_;refine sp ?_ ?_<;>intro hk
    ·have hk:v.kind=0:=hk;have hs:=Ct (l:=l) pJ (.inr hk);refine wh ?_;refine⟨aK K - (n+1),?_,om⟩;refine⟨[],[some 0,some 1,some 2],?_⟩
     iterate 3 constructor
     refine⟨⟨?_,?_,?_⟩,⟨n+1,es,om,by omega,rfl,by rw[hs];exact fT,rfl,rfl,rfl⟩⟩
     all_goals(repeat' first|exact LF|constructor)
     all_goals exact Lz.of (by simp only[hs])
    ·have hk:¬v.kind=0:=hk;have hcz:=P2 (c:=ao v) hd hk;obtain⟨ha,oz,adw,hm⟩:=Ec (c:=ao v) hcz hk;have mH:0≤v.chain∧v.chain<4:=⟨(oj oz hk).1,(oj oz hk).2.1⟩;have mK:v.chain.toNat<(mD (bf K l n).2 (ao v)).1.length:=by rw[KF];exact adw
     have hs:=MB pJ hd hk mK;have Ge:=(sY K l n0 (n - n0)).length_le;rw[show n0+(n - n0)=n by omega]at Ge;refine wh ?_;refine⟨⟨mH.1,by rw[List.length_map];show v.chain<_;omega⟩,?_⟩;refine wh ?_;refine⟨aF (mD (bf K l n).2 (ao v)).1[v.chain.toNat],by show(List.map aF (mD (bf K l n).2 (ao v)).1)[v.chain.toNat]? =_;rw[List.getElem?_map,List.getElem?_eq_getElem mK];rfl,?_⟩;refine wh ?_;refine⟨by simp;omega,?_⟩;refine wh ?_;refine⟨aK K - (n+1),?_,om⟩;refine⟨[4],[some 0,some 1,some 6],?_⟩
     iterate 3 constructor
     refine⟨⟨?_,?_,?_⟩,⟨n+1,?_,om,by omega,rfl,?_,rfl,rfl,rfl⟩⟩
     all_goals(repeat' first|exact LF|constructor)
     ·exact Lz.int (by show IntKind.i64.wrap ((((bf K l n).1.length:Nat):Int)+1)=(((bf K l (n+1)).1.length:Nat):Int);rw[hs,List.length_append,IntWalk.i64_in _ om];simp)
     ·exact Lz.of (by simp only[hs])
     ·rw[hs,fT,List.drop_append_of_le_length Ge,List.map_append];rfl
  ·have KZ:n=aK K:=by omega
   subst KZ;rw[MA hK]at nS;refine⟨_,nS,?_⟩;refine wh ?_;subst fT;refine⟨[2],[],_,_,_,_,Qm (MF K l n0) (by simp[MF];omega) (fun c hc=>by have:=xY (K:=K) hl _ c (List.mem_of_mem_drop hc);omega),t3,cw ?_⟩;exact⟨[],[some 0,some 1,some 4],_,_,_,t3,rfl,rfl,rfl⟩
@[reducible] noncomputable def lr (kn:List (Int×cA)) (K:List ak) (l:List CF):pM:=UT kn (oq K) K l (aK K)
theorem Ab {K:List ak} (h:AN K) (l:List CF) {slot:Int} {c:cA} (hs:0≤slot∧slot<512) (hc:c.check=0) (ho:other K slot c=false):br K l slot c=(put K (.of slot 0 c),MF (put K (.of slot 0 c)) l (aK K),0):=by
 have e:MF (put K (.of slot 0 c)) l (aK K)=(iU (put K (.of slot 0 c)) l).drop (iU K l).length:=by
  unfold MF iU;rw[(pa h hs.1 ho).2]
 rw[e];unfold br;rw[if_neg om,if_neg (fun q=>q hc),if_neg (by rw[ho];simp)]
theorem MG {K:List ak} (h:SS K) {kn:List (Int×cA)} (mV:∀s,bL kn s=(pz K s).map ao) (slot:Int) (c:cA) (s:Int):bL (ib kn slot c) s=(pz (put K (.of slot 0 c)) s).map ao:=by
 rw[oi,Ts h,mV];show _=(if s=slot then some (ak.of slot 0 c)else pz K s).map ao;split<;>rfl
theorem Jm {K:List ak} (h:AN K) {slot:Int} {c:cA} (hs:0≤slot∧slot<512):(if IntKind.i64.wrap (slot+1)>oq K then IntKind.i64.wrap (slot+1)else oq K)=oq (put K (.of slot 0 c)):=by
 rw[Ql h.ss _ hs.1,IntWalk.i64_in _ om];show _=max (oq K) (slot+1);split<;>omega
theorem MH {K:List ak} {l:List CF} (hK:AN K) (ho:HE l) (slot:Int) (c:cA) (hc:0≤c.aq) (kn:List (Int×cA)) (mV:∀s,bL kn s=(pz K s).map ao):
 VC E0 103 2 [.ptr 0 0,.s (.int .i64 slot),Ky c] (EL (lr kn K l)) (fun r o c'=>∃rN,(∀s,bL rN s=(pz (br K l slot c).1 s).map ao)∧c'=3∧r= .dk [.tk 2,.s (.int .i64 (br K l slot c).2.2)]∧
  o=[(0,zW (lr rN (br K l slot c).1 l) 1),(1,kM (lr rN (br K l slot c).1 l)),(2,.arr 5 true ((br K l slot c).2.1.map aF))]):=by
 refine en L0 Tryz.f103 ?_;refine sp ?_ ?_<;>intro h1
 ·have h1:slot<0:=h1;have hL:br K l slot c=(K,[],1):=by unfold br;rw[if_pos (.inl h1)]
  rw[hL];refine wh ?_;exact⟨[],[some 0,some 1,none],_,_,_,t3,kn,mV,rfl,rfl,rfl⟩
 have h1:¬slot<0:=h1;refine wh ?_;refine sp ?_ ?_<;>intro h2
 ·have h2:slot≥512:=h2;have hL:br K l slot c=(K,[],1):=by unfold br;rw[if_pos (.inr om)]
  rw[hL];refine wh ?_;exact⟨[],[some 0,some 1,none],_,_,_,t3,kn,mV,rfl,rfl,rfl⟩
 have h2:¬slot≥512:=h2;refine wh ?_;refine⟨[],[],_,_,_,_,l5 c.kind c.chain c.aq c.node,t3,cw ?_⟩;refine sp ?_ ?_<;>intro h3
 ·have h3:c.check≠0:=h3;have hL:br K l slot c=(K,[],c.check):=by unfold br;rw[if_neg om,if_pos h3]
  rw[hL];refine wh ?_;exact⟨[],[some 0,some 1,none],_,_,_,t3,kn,mV,rfl,rfl,rfl⟩
 have h3:c.check=0:=Classical.not_not.1 h3;have hs:0≤slot∧slot<512:=⟨om,om⟩;have X8:AN (put K (.of slot 0 c)):=hK.put hs hc;have xA:=MG hK.ss mV slot c;have Jn:=Jm (c:=c) hK hs;have nS:=m3 .i64 .i64 qF slot kn;rw[mV]at nS;refine wh ?_;cases EI:pz K slot with
 |none=>
  have Jo:other K slot c=false:=by unfold other;rw[EI]
  obtain⟨xI,lM⟩:=pa (l:=l) hK hs.1 Jo;have vh:=Qn X8 ho (aK K) xI (ib kn slot c) xA (oq (put K (.of slot 0 c)));rw[EI]at nS;rw[Ab hK l hs h3 Jo];refine⟨_,nS,?_⟩;refine wh ?_;refine⟨[],[some 0,some 1],_,_,_,_,vh,⟨by((repeat' first|exact LF|constructor);all_goals(first|exact Lz.of (qA .i64 qF slot c kn)|exact Lz.int Jn|exact Lz.of (by simp only[lr,UT,lM]))),by((repeat' first|exact LF|constructor);all_goals(first|exact Lz.of (qA .i64 qF slot c kn)|exact Lz.int Jn|exact Lz.of (by simp only[lM]))),by rfl⟩,?_⟩;rintro r o' c' ⟨rfl,rfl,rfl⟩;refine wh ?_
  exact⟨[],[some 0,some 1,some 6],_,_,_,t3,ib kn slot c,xA,rfl,rfl,rfl⟩
 |some v=>
  rw[EI]at nS;refine⟨_,nS,?_⟩;refine wh ?_;refine sp ?_ ?_<;>intro hv
  ·have Jo:other K slot c=true:=by
    have q:=(uA (ao v) c).symm.trans hv;unfold other;rw[EI];simp only[q];rfl
   have hL:br K l slot c=(K,[],8):=by unfold br;rw[if_neg om,if_neg (fun q=>q h3),if_pos Jo]
   rw[hL];refine wh ?_;exact⟨[],[some 0,some 1,none],_,_,_,t3,kn,mV,rfl,rfl,rfl⟩
  ·have Jo:other K slot c=false:=by
    have q:=(uA (ao v) c).symm.trans (Bool.not_eq_false _▸hv);unfold other;rw[EI];simp only[q];rfl
   obtain⟨xI,lM⟩:=pa (l:=l) hK hs.1 Jo;have vh:=Qn X8 ho (aK K) xI (ib kn slot c) xA (oq (put K (.of slot 0 c)));rw[Ab hK l hs h3 Jo];refine wh ?_;refine⟨[],[some 0,some 1],_,_,_,_,vh,⟨by((repeat' first|exact LF|constructor);all_goals(first|exact Lz.of (qA .i64 qF slot c kn)|exact Lz.int Jn|exact Lz.of (by simp only[lr,UT,lM]))),by((repeat' first|exact LF|constructor);all_goals(first|exact Lz.of (qA .i64 qF slot c kn)|exact Lz.int Jn|exact Lz.of (by simp only[lM]))),by rfl⟩,?_⟩;rintro r o' c' ⟨rfl,rfl,rfl⟩;refine wh ?_;exact⟨[],[some 0,some 1,some 6],_,_,_,t3,ib kn slot c,xA,rfl,rfl,rfl⟩
set_option maxHeartbeats 8000000
structure MS where
 me:Int
 ae:Int
 nodes:Int
 fA:Int
 a8:Int
 quiet:Int
 waited:Int
 q:Acp
 kn:List (Int×cA)
 K:List ak
 l:List CF
 p:aE×Bool
 out:List dr
@[reducible] def Tu (x:pM):TO:=.cells [.own (kM x),.s (.int .i64 x.next),.s (.int .i64 x.top),.s (.int .i64 x.done),.sl 5 (x.bM.map aF) false]
@[reducible] noncomputable def adx (s:MS):List TV:=[.s (.int .i64 s.me),.s (.int .i64 s.ae),.s (.int .i64 s.nodes),.s (.int .i64 s.fA),.s (.int .i64 s.a8),.s (.int .i64 s.quiet),.s (.int .i64 s.waited),.own (GK s.q),.own (Tu (lr s.kn s.K s.l)),.own (iR s.p),.own (.arr 25 true (s.out.map az))]
@[reducible] noncomputable def Jp (s:MS):TO:=.cells (adx s)
@[reducible] noncomputable def bD (s:MS):Ob:=[(0,Jp s)]
@[reducible] def bJ (s:MS):Int:=100+s.me
theorem cy (s:MS) (h:1≤s.me∧s.me≤5):VC E0 12 1 [.ptr 0 0] (bD s) (RR (.s (.int .i64 (bJ s))) 1 (bD s)):=by
 refine en L0 Tryz.f12 ?_;refine⟨[],[some 0],_,_,_,tx ?_,rfl,rfl,rfl⟩;exact Lz.int (by rw[IntWalk.i64_in _ om])
theorem G2 (s:MS) (hp:PX s.p):VC E0 49 1 [.ptr 0 0] (bD s) (RR (.s (.bool (decide (s.p.1.st=2)))) 1 (bD s)):=by
 obtain⟨me,ms,nodes,fA,a8,quiet,waited,q,kn,K,l,⟨x,f⟩,out⟩:=s;cases f
 all_goals
  refine en L0 Tryz.f49 ?_;refine⟨[],[some 1],_,_,_,_,Cm (x,_) hp,t3,cw ?_⟩;refine sp ?_ ?_<;>intro h
  ·refine wh ?_;refine⟨[],[some 0],_,_,_,tx ?_,rfl,rfl,rfl⟩;exact Lz.of (ah (Eq.symm (decide_eq_true h)))
  ·refine wh ?_;refine⟨[],[some 0],_,_,_,tx ?_,rfl,rfl,rfl⟩;exact Lz.of (ah (Eq.symm (decide_eq_false h)))
theorem pA (s:MS):VC E0 24 1 [.ptr 0 0] (bD s) (RR (.tk 1) 2 [(0,Jp {s with out:=[]}),(1,.arr 25 true (s.out.map az))]):=by
 refine en L0 Tryz.f24 ?_;exact⟨[],[some 0,some 1],_,_,_,t3,rfl,rfl,rfl⟩
@[reducible] def gK (s:MS) (m:dr) (to:Int):dr:={m with al:=bJ s,to:=to}
@[reducible] def xB (s:MS) (m:dr) (to:Int):MS:={s with out:=s.out++[gK s m to]}
theorem w7 (s:MS) (m:dr) (to:Int) (h:1≤s.me∧s.me≤5) (AO:to≠bJ s) (hl:s.out.length<100000):VC E0 53 1 [.ptr 0 0,.agg (az m),.s (.int .i64 to)] (bD s) (RR (.dk []) 1 (bD (xB s m to))):=by
 refine en L0 Tryz.f53 ?_;refine⟨[],[some 0],_,_,_,_,cy s h,t3,cw ?_⟩;refine⟨[],[some 0],_,_,_,_,cy s h,t3,cw ?_⟩;refine sp ?_ ?_<;>intro h1
 ·exact absurd h1 AO
 ·refine wh ?_;refine⟨by simp;omega,?_⟩;refine wh ?_;refine⟨[],[some 0],_,_,_,tx ?_,rfl,rfl,rfl⟩;exact Lz.of (by simp[c6])
def mL (s:MS) (m:dr) (k:Nat):List dr:=((List.range k).filter fun(i:Nat)=>decide ((i:Int)+1≠s.me)).map fun(i:Nat)=>gK s m (100+(i:Int)+1)
theorem Qo {s:MS} {m:dr} {k:Nat} (h:(k:Int)+1≠s.me):mL s m (k+1)=mL s m k++[gK s m (100+(k:Int)+1)]:=by
 unfold mL;rw[List.range_succ,List.filter_append,List.map_append];simp[h]
theorem Tv {s:MS} {m:dr} {k:Nat} (h:(k:Int)+1=s.me):mL s m (k+1)=mL s m k:=by
 unfold mL;rw[List.range_succ,List.filter_append,List.map_append];simp[h]
theorem mu (s:MS) (m:dr) (k:Nat):(mL s m k).length≤k:=by
 unfold mL;rw[List.length_map];exact Nat.le_trans (List.length_filter_le _ _) (by simp)
@[reducible] def bz (s:MS) (m:dr):MS:={s with out:=s.out++mL s m s.ae.toNat}
theorem rC (s:MS) (m:dr) (h:1≤s.me∧s.me≤5) (hm:1≤s.ae∧s.ae≤5) (hl:s.out.length<90000):VC E0 27 1 [.ptr 0 0,.agg (az m)] (bD s) (RR (.dk []) 1 (bD (bz s m))):=by
 refine en L0 Tryz.f27 ?_
 refine⟨fun k f o c=>∃i:Nat,i≤s.ae.toNat∧k=s.ae.toNat - i∧c=2∧f=[(0,.ptr 0 0),(3,.ptr 1 0),(8,.s (.int .i64 s.ae)),(9,.s (.int .i64 i))]∧
  o=bD {s with out:=s.out++mL s m i}++[(1,.cells (az m))],⟨s.ae.toNat,?_⟩,?_⟩
 ·refine⟨[],[some 0,some 1],?_⟩
  iterate 3 constructor
  refine⟨⟨?_,?_,?_⟩,⟨0,Nat.zero_le _,rfl,rfl,rfl,rfl⟩⟩
  all_goals(repeat' first|exact LF|constructor)
  all_goals first|exact Lz.rfl|exact Lz.of (by simp[mL])
 ·rintro k f1 o1 c1 ⟨i,hi,rfl,rfl,rfl,rfl⟩;have hn:=mu s m i;have hw:IntKind.i64.wrap ((i:Int)+1)=(i:Int)+1:=IntWalk.i64_in _ om;refine wh ?_;refine sp ?_ ?_<;>intro aN
  ·have aN:(i:Int)<s.ae:=aN;refine wh ?_;refine sp ?_ ?_<;>intro bH
   ·have bH:IntKind.i64.wrap ((i:Int)+1)≠s.me:=bH;rw[hw]at bH;refine wh ?_;have AO:IntKind.i64.wrap (IntKind.i64.wrap (100+(i:Int))+1)=100+(i:Int)+1:=by rw[IntWalk.i64_in (100+(i:Int)) om,IntWalk.i64_in _ om]
    rw[AO];refine⟨[],[some 0],_,_,_,_,w7 {s with out:=s.out++mL s m i} m (100+(i:Int)+1) h (by show 100+(i:Int)+1≠100+s.me;omega) (by simp;omega),t3,cw ?_⟩;refine⟨s.ae.toNat - (i+1),?_,om⟩;refine⟨[],[some 0,some 1],_,_,_,tx ?_,⟨i+1,om,rfl,rfl,rfl,rfl⟩⟩;exact Lz.of (by rw[Qo bH,←List.append_assoc,List.map_append (l₁:=s.out++mL s m i)])
   ·have bH:¬IntKind.i64.wrap ((i:Int)+1)≠s.me:=bH;rw[hw]at bH;have bH:(i:Int)+1=s.me:=Classical.not_not.1 bH;refine wh ?_;refine⟨s.ae.toNat - (i+1),?_,om⟩;refine⟨[],[some 0,some 1],_,_,_,tx ?_,⟨i+1,om,rfl,rfl,rfl,rfl⟩⟩;exact Lz.of (by rw[Tv bH])
  ·have aN:¬(i:Int)<s.ae:=aN;obtain rfl:i=s.ae.toNat:=by omega
   refine wh ?_;exact⟨[],[some 0],_,_,_,t3,rfl,rfl,rfl⟩
@[reducible] def Cu (c:CF):dr:=⟨11,0,0,0,0,aH,c,[]⟩
@[reducible] def pb (s:Int) (c:cA):dr:=⟨5,0,0,0,s,c,aY,[]⟩
@[reducible] def gY (s:MS) (c:CF) (l:List Int):List dr:=l.map fun n=>gK s (Cu c) n
@[reducible] def qH (s:MS) (c:CF):MS:={s with out:=s.out++gY s c (aG c)}
theorem Ac {s:MS} {c:CF} {i:Nat} (h:i<(aG c).length):gY s c ((aG c).take (i+1))=gY s c ((aG c).take i)++[gK s (Cu c) (aG c)[i]]:=by
 unfold gY;rw[gV _ i h,List.map_append];rfl
theorem UU (s:MS) (c:CF) (h:1≤s.me∧s.me≤5) (hn:c.nodes.length≤1000) (AO:∀n∈aG c,n≠bJ s) (hl:s.out.length<90000):VC E0 57 1 [.ptr 0 0,.agg (aF c)] (bD s) (RR (.dk []) 1 (bD (qH s c))):=by
 have pF:=eA c;refine en L0 Tryz.f57 ?_;refine⟨[],[],_,_,_,_,iS c.nodes om,t3,cw ?_⟩;refine sp ?_ ?_<;>intro hj;rotate_left
 ·have hj:c.join=0:=Classical.not_not.1 hj;have bR:aG c=c.nodes:=by unfold aG;simp[hj]
  refine wh ?_
  refine⟨fun k f o cc=>∃i:Nat,i≤(aG c).length∧k=(aG c).length - i∧cc=3∧f=[(0,.ptr 0 0),(3,.ptr 1 0),(18,.tk 2),(19,.s (.int .i64 ((aG c).map aR).length)),(20,.s (.int .i64 i))]∧
   o=bD {s with out:=s.out++gY s c ((aG c).take i)}++[(1,.cells (aF c)),(2,.arr 1 true ((aG c).map aR))],⟨(aG c).length,?_⟩,?_⟩
  ·refine⟨[],[some 0,some 1,some 2],?_⟩
   iterate 3 constructor
   refine⟨⟨?_,?_,?_⟩,⟨0,Nat.zero_le _,rfl,rfl,rfl,rfl⟩⟩
   all_goals(repeat' first|exact LF|constructor)
   all_goals first|exact Lz.rfl|exact Lz.of (by simp[bR,goInt])|exact Lz.of (by simp[gY])
  ·rintro k f1 o1 c1 ⟨i,hi,rfl,rfl,rfl,rfl⟩;refine wh ?_;refine sp ?_ ?_<;>intro aN
   ·have aN:i<(aG c).length:=dZ.1 aN;refine wh ?_;refine⟨⟨om,by simp;omega⟩,?_⟩;refine wh ?_;refine⟨aR (aG c)[i],by simp[aN],?_⟩;refine wh ?_;refine⟨[3],[],_,_,_,_,Qm [c] (by simp) (by simp;omega),t3,cw ?_⟩;refine⟨by simp,?_⟩;refine wh ?_;refine⟨aF c,rfl,?_⟩;refine wh ?_;refine⟨[],[some 0],_,_,_,_,w7 {s with out:=s.out++gY s c ((aG c).take i)} (Cu c) (aG c)[i] h (AO _ (List.getElem_mem aN)) (by simp;omega),t3,cw ?_⟩;refine⟨(aG c).length - (i+1),?_,om⟩;refine⟨[],[some 0,some 1,some 2],_,_,_,tx ?_,⟨i+1,aN,rfl,rfl,rfl,rfl⟩⟩
    exact Lz.of (by rw[Ac aN,←List.append_assoc,List.map_append (l₁:=s.out++gY s c ((aG c).take i))])
   ·have aN:¬i<(aG c).length:=mt dZ.2 aN;refine wh ?_;refine⟨[],[some 0],_,_,_,tx ?_,rfl,rfl,rfl⟩;exact Lz.of (by rw[List.take_of_length_le (Nat.not_lt.1 aN)])
 ·have hj:¬c.join=0:=hj;have bR:aG c=c.nodes++[c.join]:=by unfold aG;simp[hj]
  refine wh ?_;refine⟨by simp;omega,?_⟩;refine wh ?_
  refine⟨fun k f o cc=>∃i:Nat,i≤(aG c).length∧k=(aG c).length - i∧cc=3∧f=[(0,.ptr 0 0),(3,.ptr 1 0),(18,.tk 2),(19,.s (.int .i64 ((aG c).map aR).length)),(20,.s (.int .i64 i))]∧
   o=bD {s with out:=s.out++gY s c ((aG c).take i)}++[(1,.cells (aF c)),(2,.arr 1 true ((aG c).map aR))],⟨(aG c).length,?_⟩,?_⟩
  ·refine⟨[],[some 0,some 1,some 4],?_⟩
   iterate 3 constructor
   refine⟨⟨?_,?_,?_⟩,⟨0,Nat.zero_le _,rfl,rfl,rfl,rfl⟩⟩
   all_goals(repeat' first|exact LF|constructor)
   all_goals first|exact Lz.rfl|exact Lz.of (by simp[bR,goInt])|exact Lz.of (by simp[gY])
  ·rintro k f1 o1 c1 ⟨i,hi,rfl,rfl,rfl,rfl⟩;refine wh ?_;refine sp ?_ ?_<;>intro aN
   ·have aN:i<(aG c).length:=dZ.1 aN;refine wh ?_;refine⟨⟨om,by simp;omega⟩,?_⟩;refine wh ?_;refine⟨aR (aG c)[i],by simp[aN],?_⟩;refine wh ?_;refine⟨[3],[],_,_,_,_,Qm [c] (by simp) (by simp;omega),t3,cw ?_⟩;refine⟨by simp,?_⟩;refine wh ?_;refine⟨aF c,rfl,?_⟩;refine wh ?_;refine⟨[],[some 0],_,_,_,_,w7 {s with out:=s.out++gY s c ((aG c).take i)} (Cu c) (aG c)[i] h (AO _ (List.getElem_mem aN)) (by simp;omega),t3,cw ?_⟩;refine⟨(aG c).length - (i+1),?_,om⟩;refine⟨[],[some 0,some 1,some 2],_,_,_,tx ?_,⟨i+1,aN,rfl,rfl,rfl,rfl⟩⟩
    exact Lz.of (by rw[Ac aN,←List.append_assoc,List.map_append (l₁:=s.out++gY s c ((aG c).take i))])
   ·have aN:¬i<(aG c).length:=mt dZ.2 aN;refine wh ?_;refine⟨[],[some 0],_,_,_,tx ?_,rfl,rfl,rfl⟩;exact Lz.of (by rw[List.take_of_length_le (Nat.not_lt.1 aN)])
@[reducible] noncomputable def MJ (x:pM):Ob:=[(0,Tu x)]
theorem qI (x:pM):VC E0 54 1 [.ptr 0 0] (MJ x) (RR (.s (.int .i64 x.next)) 1 (MJ x)):=by
 have gQ:=P5 x;refine VC.told (R:=RR (.s (.int .i64 x.next)) 4 (EL x)) (VC.lY (m0:=0) rfl ?_) ?_
 ·show jE false (VC E0) _ _ [(1,kM x),(0,zW x 1)] 2 _;refine⟨[],[some 0,some 1],_,_,_,_,gQ,t3,?_⟩;rintro r o' c' ⟨rfl,rfl,rfl⟩;exact⟨rfl,rfl,rfl⟩
 ·rintro r o' c' ⟨rfl,rfl,rfl⟩;exact⟨[],[some 0],_,_,_,t3,rfl,rfl,rfl⟩
theorem Jq (x:pM) (slot:Int):VC E0 34 1 [.ptr 0 0,.s (.int .i64 slot)] (MJ x) (RR (.dk [qF ((bL x.known slot).getD aH),.s (.bool (bL x.known slot).isSome)]) 1 (MJ x)):=by
 have gQ:=WN x slot;refine VC.told (R:=RR (.dk [qF ((bL x.known slot).getD aH),.s (.bool (bL x.known slot).isSome)]) 4 (EL x)) (VC.lY (m0:=0) rfl ?_) ?_
 ·show jE false (VC E0) _ _ [(1,kM x),(0,zW x 1)] 2 _;refine⟨[],[some 0,some 1],_,_,_,_,gQ,t3,?_⟩;rintro r o' c' ⟨rfl,rfl,rfl⟩;exact⟨rfl,rfl,rfl⟩
 ·rintro r o' c' ⟨rfl,rfl,rfl⟩;exact⟨[],[some 0],_,_,_,t3,rfl,rfl,rfl⟩
theorem Tw (x:pM) (c:cA):VC E0 50 1 [.ptr 0 0,Ky c] (MJ x) (RR (.s (.int .i64 (jU x.bM c))) 1 (MJ x)):=by
 have gQ:=Ti x c;refine VC.told (R:=RR (.s (.int .i64 (jU x.bM c))) 4 (EL x)) (VC.lY (m0:=0) rfl ?_) ?_
 ·show jE false (VC E0) _ _ [(1,kM x),(0,zW x 1)] 2 _;refine⟨[],[some 0,some 1],_,_,_,_,gQ,t3,?_⟩;rintro r o' c' ⟨rfl,rfl,rfl⟩;exact⟨rfl,rfl,rfl⟩
 ·rintro r o' c' ⟨rfl,rfl,rfl⟩;exact⟨[],[some 0],_,_,_,t3,rfl,rfl,rfl⟩
theorem rD (x:pM) (hl:x.bM.length<10000) (hn:∀c∈x.bM,c.nodes.length<1000000):VC E0 8 1 [.ptr 0 0] (MJ x) (RR (.sl 5 (x.bM.map aF) false) 1 (MJ x)):=by
 have gQ:=Ms x hl hn;refine VC.told (R:=RR (.sl 5 (x.bM.map aF) false) 4 (EL x)) (VC.lY (m0:=0) rfl ?_) ?_
 ·show jE false (VC E0) _ _ [(1,kM x),(0,zW x 1)] 2 _;refine⟨[],[some 0,some 1],_,_,_,_,gQ,t3,?_⟩;rintro r o' c' ⟨rfl,rfl,rfl⟩;exact⟨rfl,rfl,rfl⟩
 ·rintro r o' c' ⟨rfl,rfl,rfl⟩;exact⟨[],[some 0],_,_,_,t3,rfl,rfl,rfl⟩
theorem KI (x:pM):VC E0 33 1 [.ptr 0 0] (MJ x) (RR (.s (.int .i64 x.top)) 1 (MJ x)):=by
 have gQ:=Th x;refine VC.told (R:=RR (.s (.int .i64 x.top)) 4 (EL x)) (VC.lY (m0:=0) rfl ?_) ?_
 ·show jE false (VC E0) _ _ [(1,kM x),(0,zW x 1)] 2 _;refine⟨[],[some 0,some 1],_,_,_,_,gQ,t3,?_⟩;rintro r o' c' ⟨rfl,rfl,rfl⟩;exact⟨rfl,rfl,rfl⟩
 ·rintro r o' c' ⟨rfl,rfl,rfl⟩;exact⟨[],[some 0],_,_,_,t3,rfl,rfl,rfl⟩
theorem MK {K:List ak} {l:List CF} (hK:AN K) (ho:HE l) (slot:Int) (c:cA) (hc:0≤c.aq) (kn:List (Int×cA)) (mV:∀s,bL kn s=(pz K s).map ao):
 VC E0 103 1 [.ptr 0 0,.s (.int .i64 slot),Ky c] (MJ (lr kn K l)) (fun r o c'=>∃rN,(∀s,bL rN s=(pz (br K l slot c).1 s).map ao)∧c'=2∧r= .dk [.tk 1,.s (.int .i64 (br K l slot c).2.2)]∧
  o=[(0,Tu (lr rN (br K l slot c).1 l)),(1,.arr 5 true ((br K l slot c).2.1.map aF))]):=by
 refine VC.told (R:=fun r o c'=>∃rN,(∀s,bL rN s=(pz (br K l slot c).1 s).map ao)∧c'=5∧r= .dk [.tk 4,.s (.int .i64 (br K l slot c).2.2)]∧
  o=[(0,zW (lr rN (br K l slot c).1 l) 1),(1,kM (lr rN (br K l slot c).1 l)),(4,.arr 5 true ((br K l slot c).2.1.map aF))]) (VC.lY (m0:=0) rfl ?_) ?_
 ·show jE false (VC E0) _ _ [(1,kM (lr kn K l)),(0,zW (lr kn K l) 1)] 2 _;refine⟨[],[some 0,some 1],_,_,_,_,MH hK ho slot c hc kn mV,t3,?_⟩;rintro r o' c' ⟨rN,xA,rfl,rfl,rfl⟩;exact⟨rN,xA,rfl,rfl,rfl⟩
 ·rintro r o' c' ⟨rN,xA,rfl,rfl,rfl⟩;exact⟨[],[some 0,some 4],_,_,_,t3,⟨rN,xA,rfl,rfl,rfl⟩⟩
def Ty (s:MS):Prop:=∀x,bL s.kn x=(pz s.K x).map ao
def ic (s:MS) (l:List CF):List dr:=l.flatMap fun c=>gY s c (aG c)
noncomputable def sZ (s:MS) (slot:Int) (c:cA) (rN:List (Int×cA)):MS:=
 {s with kn:=rN,K:=(br s.K s.l slot c).1,out:=s.out++(if s.p.1.st=2 then ic s (br s.K s.l slot c).2.1 else [])}
structure v8 (x:aE):Prop where
 me:m5 x.me
 ms:m5 x.ae
 cm:fj x
 op:ee x
 ev:∀e∈x.dT,rM e.2.2
 oc:∀e∈x.dT,e.2.1.check=0
 cv:∀e∈x.aV,∀v∈e.2,(ao v).check=0
 bQ:0≤x.bQ∧x.bQ≤512
 b:0≤x.b∧x.b≤18446744073709551615
 s1:x.st=1→x.bQ=x.al∧x.dT=[]
 cf:∀e∈x.aV,∀v∈e.2,x.al≤v.slot
structure c9 (s:MS):Prop where
 me:1≤s.me∧s.me≤5
 ms:s.me≤s.ae∧s.ae≤5
 px:PX s.p
 lw:v8 s.p.1
 qk:UM s.q.1 s.q.2
 qc:∀e∈s.q.2,(ao e.2).check=0
 qp:0≤s.q.1∧s.q.1≤18446744073709551615
 kn:Ty s
 kK:AN s.K
 lE:HE s.l
 nd:∀K,AN K→∀c∈(bf K s.l (aK K)).1,∀x∈aG c,x≤24
 nc:∀K,AN K→∀c∈(bf K s.l (aK K)).2,∀x∈aG c,x≤24
theorem Ad (s:MS) (l:List CF) (h:∀c∈l,c.nodes.length≤6):(ic s l).length≤l.length*7:=by
 induction l with
 |nil=>simp[ic]
 |cons c l ih=>
  have h1:=eA c;have h2:=h c List.mem_cons_self;have h3:=ih fun x hx=>h x (List.mem_cons_of_mem _ hx);unfold ic at h3 ⊢;rw[List.flatMap_cons,List.length_append];have:(gY s c (aG c)).length=(aG c).length:=by simp[gY]
  simp only[List.length_cons];omega
theorem G3 {s:MS} {l:List CF} {i:Nat} (h:i<l.length):ic s (l.take (i+1))=ic s (l.take i)++gY s l[i] (aG l[i]):=by
 unfold ic;rw[gV _ i h,List.flatMap_append];simp
theorem s7 {K:List ak} {l:List CF} (hK:AN K) (_:HE l) (slot:Int) (c:cA) (hc:0≤c.aq):AN (br K l slot c).1∧(∀x∈(br K l slot c).2.1,x∈(bf (br K l slot c).1 l (aK (br K l slot c).1)).1)∧(br K l slot c).2.1.length≤1000:=by
 unfold br;split
 ·exact⟨hK,by simp,by simp⟩
 split
 ·exact⟨hK,by simp,by simp⟩
 split
 ·exact⟨hK,by simp,by simp⟩
 rename_i h1 h2 h3;have hp:AN (put K (.of slot 0 c)):=hK.put om hc;refine⟨hp,fun x hx=>List.mem_of_mem_drop hx,?_⟩;have h4:=rB (put K (.of slot 0 c)) l (aK (put K (.of slot 0 c)));have h5:=zV (put K (.of slot 0 c));have h6:=hp.len;show((iU (put K (.of slot 0 c)) l).drop (iU K l).length).length≤1000;rw[List.length_drop];unfold iU;omega
theorem Xl (s:MS) (H:c9 s) (m:dr) (hc:0≤m.cmd.aq) (hl:s.out.length<50000):VC E0 46 1 [.ptr 0 0,.agg (az m)] (bD s)
 (fun r o c=>∃rN,Ty (sZ s m.slot m.cmd rN)∧r= .dk []∧c=1∧o=bD (sZ s m.slot m.cmd rN)):=by
 obtain⟨X8,EJ,b6⟩:=s7 H.kK H.lE m.slot m.cmd hc;have jF:=H.me;have hpx:=H.px;have h24:=H.nd _ X8;have hn6:∀c∈(br s.K s.l m.slot m.cmd).2.1,c.nodes.length≤6:=fun c hc=>xY H.lE _ c (EJ c hc);unfold sZ;refine en L0 Tryz.f46 ?_;refine⟨[],[some 2],_,_,_,_,MK H.kK H.lE m.slot m.cmd hc s.kn H.kn,t3,?_⟩;rintro r o' c' ⟨rN,xA,rfl,rfl,rfl⟩;refine wh ?_;generalize (br s.K s.l m.slot m.cmd).2.2=er at*
 generalize (br s.K s.l m.slot m.cmd).2.1=aV at*
 generalize (br s.K s.l m.slot m.cmd).1=K' at*
 have hlen:∀i,(if s.p.1.st=2 then ic s (aV.take i)else []).length≤7000:=fun i=>by
  split
  ·have h1:=Ad s (aV.take i) fun c hc=>hn6 c (List.mem_of_mem_take hc);have h2:(aV.take i).length≤aV.length:=by simp;omega
   omega
  ·simp
 refine⟨fun k f o cc=>∃i:Nat,i≤aV.length∧k=aV.length - i∧cc=3∧f=[(0,.ptr 0 0),(3,.ptr 1 0),(20,.tk 2),(21,.s (.int .i64 (aV.map aF).length)),(22,.s (.int .i64 i))]∧
  o=bD {s with kn:=rN,K:=K',out:=s.out++(if s.p.1.st=2 then ic s (aV.take i)else [])}++[(1,.cells (az m)),(2,.arr 5 true (aV.map aF))],⟨aV.length,?_⟩,?_⟩
 ·refine⟨[],[some 0,some 1,some 4],?_⟩
  iterate 3 constructor
  refine⟨⟨?_,?_,?_⟩,⟨0,Nat.zero_le _,rfl,rfl,rfl,rfl⟩⟩
  all_goals(repeat' first|exact LF|constructor)
  all_goals first|exact Lz.rfl|exact Lz.of (by simp[ic])
 ·rintro k f1 o1 c1 ⟨i,hi,rfl,rfl,rfl,rfl⟩;refine wh ?_;refine sp ?_ ?_<;>intro aN
  ·have aN:i<aV.length:=dZ.1 aN;refine wh ?_;refine⟨⟨om,by rw[List.length_map];omega⟩,?_⟩;refine wh ?_;refine⟨aF aV[i],by simp[aN],?_⟩;refine wh ?_;refine⟨[],[some 0],_,_,_,_,G2 {s with kn:=rN,K:=K',out:=s.out++(if s.p.1.st=2 then ic s (aV.take i)else [])} hpx,t3,?_⟩;rintro r o' c' ⟨rfl,rfl,rfl⟩;have bm:=True.intro;clear bm;cases hb:decide (s.p.1.st=2)
   ·refine wh ?_;have hb:¬s.p.1.st=2:=of_decide_eq_false hb;refine⟨aV.length - (i+1),?_,om⟩;refine⟨[],[some 0,some 1,some 2],_,_,_,tx ?_,⟨i+1,aN,rfl,rfl,rfl,rfl⟩⟩;exact Lz.of (by rw[if_neg hb,if_neg hb])
   ·refine wh ?_;have hb:s.p.1.st=2:=of_decide_eq_true hb;have Yj:=List.getElem_mem aN;refine⟨[],[some 0],_,_,_,_,UU {s with kn:=rN,K:=K',out:=s.out++(if s.p.1.st=2 then ic s (aV.take i)else [])} aV[i] jF (by have:=hn6 _ Yj;omega) (fun n hn=>by have:=h24 _ (EJ _ Yj) n hn;show n≠100+s.me;omega) (by have:=hlen i;rw[List.length_append];omega),t3,cw ?_⟩;refine⟨aV.length - (i+1),?_,om⟩;refine⟨[],[some 0,some 1,some 2],_,_,_,tx ?_,⟨i+1,aN,rfl,rfl,rfl,rfl⟩⟩;exact Lz.of (by rw[if_pos hb,if_pos hb,G3 aN,←List.append_assoc,List.map_append (l₁:=s.out++ic s (aV.take i))])
  ·have aN:¬i<aV.length:=mt dZ.2 aN;refine wh ?_;refine⟨[],[some 0],_,_,_,tx ?_,⟨rN,xA,rfl,rfl,rfl⟩⟩;exact Lz.of (by rw[List.take_of_length_le (Nat.not_lt.1 aN)])
@[reducible] noncomputable def RS (P:MS→Prop):TV→Ob→Nat→Prop:=fun r o c=>∃s',P s'∧r= .dk []∧c=1∧o=bD s'
def qJ (s:MS) (slot:Int) (c:cA) (s':MS):Prop:=∃rN,s'=sZ s slot c rN∧Ty s'
theorem c9.outs {s:MS} (H:c9 s) (l:List dr):c9 {s with out:=l}:=⟨H.me,H.ms,H.px,H.lw,H.qk,H.qc,H.qp,H.kn,H.kK,H.lE,H.nd,H.nc⟩
theorem w8 (s:MS) (H:c9 s) (m:dr) (hc:0≤m.cmd.aq) (hl:s.out.length<50000):VC E0 23 1 [.ptr 0 0,.agg (az {m with kind:=5})] (bD s) (RS (qJ s m.slot m.cmd)):=by
 refine en L0 Tryz.f23 ?_;refine rn ?_;refine⟨[],[some 0],_,_,_,_,Xl s H {m with kind:=5} hc hl,t3,?_⟩;rintro r o' c' ⟨rN,xA,rfl,rfl,rfl⟩;refine wh ?_;exact⟨[],[some 0],_,_,_,t3,⟨_,⟨rN,rfl,xA⟩,rfl,rfl,rfl⟩⟩
theorem Jr (s:MS) (H:c9 s) (m:dr) (hc:0≤m.cmd.aq) (hl:s.out.length<50000):VC E0 53 1 [.ptr 0 0,.agg (az {m with kind:=5}),.s (.int .i64 (bJ s))] (bD s) (RS (qJ s m.slot m.cmd)):=by
 refine en L0 Tryz.f53 ?_;refine⟨[],[some 0],_,_,_,_,cy s H.me,t3,cw ?_⟩;refine⟨[],[some 0],_,_,_,_,cy s H.me,t3,cw ?_⟩;refine sp ?_ ?_<;>intro h1;rotate_left
 ·exact absurd rfl h1
 ·refine wh ?_;refine⟨[],[some 0],_,_,_,_,w8 s H {m with al:=bJ s,to:=bJ s} hc hl,t3,?_⟩;rintro r o' c' ⟨s',kp,rfl,rfl,rfl⟩;refine wh ?_;exact⟨[],[some 0],_,_,_,t3,⟨_,kp,rfl,rfl,rfl⟩⟩
theorem Js (s:MS) (H:c9 s) (m:dr) (hc:0≤m.cmd.aq) (hl:s.out.length<49000):VC E0 45 1 [.ptr 0 0,.agg (az {m with kind:=5})] (bD s) (RS (qJ (bz s {m with kind:=5}) m.slot m.cmd)):=by
 have jF:=H.me;have gR:=H.ms;refine en L0 Tryz.f45 ?_;refine⟨[],[some 0],_,_,_,_,rC s {m with kind:=5} jF om om,t3,cw ?_⟩;refine⟨[],[some 0],_,_,_,_,cy (bz s {m with kind:=5}) jF,t3,cw ?_⟩;have hol:=mu s {m with kind:=5} s.ae.toNat
 refine⟨[],[some 0],_,_,_,_,Jr (bz s {m with kind:=5}) (H.outs _) m hc (by rw[List.length_append];omega),t3,?_⟩;rintro r o' c' ⟨s',kp,rfl,rfl,rfl⟩;refine wh ?_;exact⟨[],[some 0],_,_,_,t3,⟨_,kp,rfl,rfl,rfl⟩⟩
theorem m7 {c:cA} (h:c.check=0):0≤c.aq:=by
 unfold cA.check zL at h;split at h
 ·cases h
 split at h
 ·split at h
  ·cases h
  ·rename_i h3;omega
 ·split at h
  ·cases h
  ·rename_i h3;omega
theorem v8.accepted {x:aE} (h:v8 x) (b slot aM:Int):v8 (ax x b slot aM).1∧((ax x b slot aM).2.2=true→(ao (ax x b slot aM).2.1).check=0):=by
 unfold ax;by_cases hg:(x.st=2∧x.b=b)∧1≤aM∧aM≤x.ae
 ·rw[if_pos hg];have gR:=h.ms;have hw:m5 aM:=by unfold m5 at gR ⊢;omega
  cases hq:bL x.dT slot with
  |none=>exact⟨h,fun e=>by cases e⟩
  |some p=>
   have fL:=(bX h.op.nd).1 hq;have Np:=h.ev _ fL;have rY:=h.oc _ fL;have Wu:rM (bI p.2 [aM]):=jl Np (by simpa using hw);have kA:slot∈aQ x.dT:=List.mem_map.2 ⟨_,fL,rfl⟩;have lS:v8 {x with dT:=ib x.dT slot (p.1,bI p.2 [aM])}:=by
    refine⟨h.me,h.ms,⟨h.cm.nd,h.cm.k5,h.cm.I7⟩,⟨sS h.op.nd,fun k hk=>?_⟩,fun e he=>?_,fun e he=>?_,h.cv,h.bQ,h.b,fun e=>absurd (hg.1.1.symm.trans e) (by decide),h.cf⟩
    ·have hk:k∈aQ (ib x.dT slot (p.1,bI p.2 [aM])):=hk;rw[rz,if_pos kA]at hk;exact h.op.l6 k hk
    ·rcases(zN h.op.nd).1 he with rfl |⟨_,q⟩
     ·exact Wu
     ·exact h.ev e q
    ·rcases(zN h.op.nd).1 he with rfl |⟨_,q⟩
     ·exact rY
     ·exact h.oc e q
   dsimp only
   split
   ·refine⟨⟨h.me,h.ms,⟨h.cm.nd,h.cm.k5,h.cm.I7⟩,⟨I4 lS.op.nd,fun k hk=>?_⟩,fun e he=>lS.ev e (oh.subset he),fun e he=>lS.oc e (oh.subset he),h.cv,h.bQ,h.b,fun e=>absurd (hg.1.1.symm.trans e) (by decide),h.cf⟩,fun _=>rY⟩;obtain⟨e,he,rfl⟩:=List.mem_map.1 hk;exact lS.op.l6 _ (List.mem_map.2 ⟨e,oh.subset he,rfl⟩)
   ·exact⟨lS,fun e=>by cases e⟩
 ·rw[if_neg hg];exact⟨h,fun e=>by cases e⟩
theorem v8.refuse {x:aE} (h:v8 x) (b:Int):v8 (cP x b).1:=by
 unfold cP;split
 ·exact h
 ·exact⟨h.me,h.ms,⟨.nil,by simp[aQ],by simp⟩,⟨.nil,by simp[aQ]⟩,by simp,by simp,by simp,h.bQ,h.b,fun e=>absurd (show(0:Int)=1 from e) (by decide),by simp⟩
theorem v8.start {x:aE} (h:v8 x) {b al:Int} (hb:0≤b∧b≤18446744073709551615) (hf:0≤al∧al≤512):v8 (ma x.me x.ae b al):=
 ⟨h.me,h.ms,⟨.nil,by simp[aQ],by simp⟩,⟨.nil,by simp[aQ]⟩,by simp,by simp,by simp,hf,hb,fun _=>⟨rfl,rfl⟩,by simp⟩
theorem v8.pc {x:aE} (h:v8 x) (c:cA):v8 (aD x c).1:=by
 unfold aD;split
 ·exact h
 split
 ·exact h
 split
 ·exact h
 split
 ·exact h
 rename_i h1 h2 h3 h4;have hn:=h.bQ;have Yd:x.bQ∉aQ x.dT:=fun hm=>by have:=h.op.l6 _ hm;omega
 refine⟨h.me,h.ms,⟨h.cm.nd,h.cm.k5,h.cm.I7⟩,h.op.lay hn.1 c,fun e he=>?_,fun e he=>?_,h.cv,by show 0≤x.bQ+1∧x.bQ+1≤512;omega,h.b,fun e=>absurd ((Classical.not_not.1 h1).symm.trans e) (by decide),h.cf⟩
 ·have he:e∈ib x.dT x.bQ (c,0):=he;rw[l8 Yd]at he;rcases List.mem_append.1 he with q|q
  ·exact h.ev e q
  ·simp at q;subst q;exact(by decide:rM 0)
 ·have he:e∈ib x.dT x.bQ (c,0):=he;rw[l8 Yd]at he;rcases List.mem_append.1 he with q|q
  ·exact h.oc e q
  ·simp at q;subst q;exact Classical.not_not.1 h2
theorem s8 (s:Int) (l:List ak):match ew (gm l) s with
 |none=>∀u∈l,u.slot≠s
 |some v=>v∈l∧v.slot=s∧∀u∈l,u.slot=s→u.ai≤v.ai:=by
 induction l using PT with
 |h0=>simp[gm,ew]
 |h1 l v ih=>
  rw[zM,GG];by_cases hn:s=v.slot
  ·rw[if_pos hn];cases h:ew (gm l) s with
   |none=>
    rw[h]at ih;simp only[better];refine⟨by simp,hn.symm,fun u hu hs=>?_⟩;rcases List.mem_append.1 hu with q|q
    ·exact absurd hs (ih u q)
    ·simp at q;subst q;exact Int.le_refl _
   |some w=>
    rw[h]at ih;obtain⟨i1,i2,i3⟩:=ih;simp only[better];by_cases hb:v.ai>w.ai
    ·rw[if_pos hb];refine⟨by simp,hn.symm,fun u hu hs=>?_⟩;rcases List.mem_append.1 hu with q|q
     ·have:=i3 u q hs;omega
     ·simp at q;subst q;exact Int.le_refl _
    ·rw[if_neg hb];refine⟨List.mem_append_left _ i1,i2,fun u hu hs=>?_⟩;rcases List.mem_append.1 hu with q|q
     ·exact i3 u q hs
     ·simp at q;subst q;omega
  ·rw[if_neg hn];cases h:ew (gm l) s with
   |none=>
    rw[h]at ih;dsimp only at ih ⊢;intro u hu;rcases List.mem_append.1 hu with q|q
    ·exact ih u q
    ·simp at q;subst q;exact fun e=>hn e.symm
   |some w=>
    rw[h]at ih;obtain⟨i1,i2,i3⟩:=ih;dsimp only
    refine⟨List.mem_append_left _ i1,i2,fun u hu hs=>?_⟩;rcases List.mem_append.1 hu with q|q
    ·exact i3 u q hs
    ·simp at q;subst q;exact absurd hs.symm hn
structure aaF (x y:aE) (B:List ak):Prop where
 me:y.me=x.me
 ms:y.ae=x.ae
 st:y.st=x.st
 b:y.b=x.b
 al:y.al=x.al
 aV:y.aV=x.aV
 ge:x.bQ≤y.bQ
 lt:∀v∈B,v.slot<y.bQ
 new:∀e∈y.dT,e∈x.dT∨(x.bQ≤e.1∧e.1<y.bQ∧e.2.2=0∧((∃v∈B,v.slot=e.1∧ao v=e.2.1)∨(e.2.1=aH∧∀v∈B,v.slot≠e.1)))
 top:x.bQ≤512→(∀v∈B,v.slot<512)→y.bQ≤512
theorem Jt:∀(B:List ak) (x:aE),ee x→0≤x.bQ→SS B→(∀v∈B,x.bQ≤v.slot)→aaF x (dD x B) B
 |[],x,_,_,_,_=>⟨rfl,rfl,rfl,rfl,rfl,rfl,Int.le_refl _,by simp,fun e he=>.inl he,fun h _=>h⟩
 |v::B,x,ho,hn,hS,hB=>by
  obtain⟨WL,xy⟩:=List.pairwise_cons.1 hS;have hv:=hB v List.mem_cons_self;have e0:dD x (v::B)=dD (iu (dh x v.slot) (ao v)) B:=by simp[dD]
  have h1:ee (dh x v.slot):=ho.iY hn _;have n1:(dh x v.slot).bQ=v.slot:=by unfold dh;rw[l9];omega
  have r1:=Cj x (v.slot - x.bQ).toNat
  have o1:=GJ ho hn (v.slot - x.bQ).toNat
  have hk:(dh x v.slot).bQ∉aQ (dh x v.slot).dT:=fun hm=>by have:=h1.l6 _ hm;omega
  have o2:(iu (dh x v.slot) (ao v)).dT=(dh x v.slot).dT++[(v.slot,ao v,0)]:=by
   show ib (dh x v.slot).dT (dh x v.slot).bQ (ao v,0)=_;rw[l8 hk,n1]
  have n2:(iu (dh x v.slot) (ao v)).bQ=v.slot+1:=by show(dh x v.slot).bQ+1=_;rw[n1]
  have ih:=Jt B (iu (dh x v.slot) (ao v)) (h1.lay om _) om xy (fun w hw=>by have:=WL w hw;omega);have r2:(dh x v.slot).me=x.me∧(dh x v.slot).ae=x.ae∧(dh x v.slot).st=x.st∧(dh x v.slot).b=x.b∧(dh x v.slot).al=x.al∧(dh x v.slot).aV=x.aV:=by
   unfold dh;rw[r1];exact⟨rfl,rfl,rfl,rfl,rfl,rfl⟩
  rw[e0];generalize dD (iu (dh x v.slot) (ao v)) B=y at ih;have xI:=ih.ge;refine⟨ih.me.trans r2.1,ih.ms.trans r2.2.1,ih.st.trans r2.2.2.1,ih.b.trans r2.2.2.2.1,ih.al.trans r2.2.2.2.2.1,ih.aV.trans r2.2.2.2.2.2,om,fun w hw=>?_,fun e he=>?_,fun h h'=>ih.top (by have:=h' v List.mem_cons_self;omega) fun w hw=>h' w (List.mem_cons_of_mem _ hw)⟩
  ·rcases List.mem_cons.1 hw with rfl |hw
   ·omega
   ·exact ih.lt w hw
  ·rcases ih.new e he with q|⟨q1,q2,q3,q4⟩
   ·rw[o2]at q;rcases List.mem_append.1 q with q|q
    ·have o1:(dh x v.slot).dT=_:=o1;rw[o1]at q;rcases List.mem_append.1 q with q|q
     ·exact .inl q
     ·obtain⟨k,hk,rfl⟩:=List.mem_map.1 q;have hk:=List.mem_range.1 hk;right;refine⟨by show x.bQ≤x.bQ+k;omega,by show x.bQ+(k:Int)<y.bQ;omega,rfl,.inr ⟨rfl,fun w hw=>?_⟩⟩;show w.slot≠x.bQ+(k:Int);rcases List.mem_cons.1 hw with rfl |hw
      ·omega
      ·have:=WL w hw;omega
    ·simp at q;subst q;right;exact⟨hv,by show v.slot<y.bQ;omega,rfl,.inl ⟨v,List.mem_cons_self,rfl,rfl⟩⟩
   ·right;refine⟨om,q2,q3,?_⟩;rcases q4 with⟨w,hw,a,b⟩|⟨a,b⟩
    ·exact .inl ⟨w,List.mem_cons_of_mem _ hw,a,b⟩
    ·refine .inr ⟨a,fun w hw=>?_⟩;rcases List.mem_cons.1 hw with rfl |hw
     ·omega
     ·exact b w hw
theorem wa {i:Nat}:∀(L:List Int) (s:Nat),(bI s L).testBit i=true→s.testBit i=true∨∃w∈L,w.toNat=i
 |[],s,h=>.inl h
 |x::L,s,h=>by
  rcases wa L (s|||2 ^ x.toNat) h with q|⟨w,hw,q⟩
  ·rw[Nat.testBit_or,Nat.testBit_two_pow,Bool.or_eq_true,decide_eq_true_iff]at q;rcases q with q|q
   ·exact .inl q
   ·exact .inr ⟨x,List.mem_cons_self,q⟩
  ·exact .inr ⟨w,List.mem_cons_of_mem _ hw,q⟩
theorem Qp {b w:Int} (hb:0≤b) (hw:m5 w) (h:(gp b w).2=0):b<(gp b w).1∧(gp b w).1 % 8=w:=by
 unfold m5 at hw
 have key:∀r0 r1:Int,r0=(if 1>b / 8 then 1 else b / 8)→r1=(if 8*r0+w≤b then r0+1 else r0)→(if r1≥1152921504606846976 then((0:Int),(9:Int))else(8*r1+w,0)).2=0→
  b<(if r1≥1152921504606846976 then((0:Int),(9:Int))else(8*r1+w,0)).1∧(if r1≥1152921504606846976 then((0:Int),(9:Int))else(8*r1+w,0)).1 % 8=w:=by
  intro r0 r1 h0 h1 h;by_cases hr:r1≥1152921504606846976
  ·rw[if_pos hr]at h;exact absurd (show(9:Int)=0 from h) (by decide)
  ·rw[if_neg hr];dsimp only
   split at h0<;>split at h1<;>omega
 exact key _ _ rfl rfl h
theorem Qq {x:aE} (hc:fj x) {v:ak} (hv:v∈ey (eV x)):∃e∈x.aV,v∈e.2:=by
 have cC:∀l∈eV x,∃e∈x.aV,l=e.2:=fun l hl=>by
  unfold eV at hl;rw[List.mem_map]at hl;obtain⟨w,hw,rfl⟩:=hl;obtain⟨e,he,rfl⟩:=List.mem_map.1 (dI.1 hw);exact⟨e,he,by rw[(bX hc.nd).2 (show(e.1,e.2)∈x.aV from he)];rfl⟩
 have Tz:∀l∈eV x,∀v∈l,vV v.slot:=fun l hl v hv=>by
  obtain⟨e,he,rfl⟩:=cC l hl;exact((hc.I7 e he).2 v hv).1
 have h1:=(Ci Tz).1 hv;have h2:=s8 v.slot (eV x).flatten;rw[h1]at h2;obtain⟨l,hl,QX⟩:=List.mem_flatten.1 h2.1;obtain⟨e,he,rfl⟩:=cC l hl;exact⟨e,he,QX⟩
theorem TA {x:aE} (hc:fj x):SS (ey (eV x)):=by
 refine GI fun l hl v hv=>?_;unfold eV at hl;rw[List.mem_map]at hl;obtain⟨w,hw,rfl⟩:=hl;obtain⟨e,he,rfl⟩:=List.mem_map.1 (dI.1 hw);rw[(bX hc.nd).2 (show(e.1,e.2)∈x.aV from he)]at hv;exact((hc.I7 e he).2 v hv).1
theorem v8.promise {x:aE} (h:v8 x) (b aM:Int) (vs:List ak) (hl:vs.length≤600) (hv:∀v∈vs,vV v.slot) (Vp:∀v∈vs,(ao v).check=0):
 v8 (bY x b aM vs).1∧∀v∈(bY x b aM vs).2.1,(ao v).check=0:=by
 unfold bY;by_cases hg:(x.st=1∧x.b=b)∧1≤aM∧aM≤x.ae
 ·rw[if_pos hg];have gR:=h.ms;have hw:m5 aM:=by unfold m5 at gR ⊢;omega
  obtain⟨rY,ady⟩:=zS h.cm hw hl hv;obtain⟨Ui,iZ⟩:=h.s1 hg.1.1;have Cv:∀e∈(bS x aM vs).aV,∀v∈e.2,(ao v).check=0∧x.al≤v.slot:=fun e he v zR=>by
   have he:e∈(if aM∈aQ x.aV then x.aV else x.aV++[(aM,sV x.al vs)]):=he;split at he
   ·exact⟨h.cv e he v zR,h.cf e he v zR⟩
   ·rcases List.mem_append.1 he with q|q
    ·exact⟨h.cv e q v zR,h.cf e q v zR⟩
    ·simp at q;subst q;have zR:v∈vs.filter fun v=> !(sU x.al v):=zR;rw[List.mem_filter,GH]at zR;exact⟨Vp v zR.1,zR.2.1⟩
  have hL1:v8 (bS x aM vs):=⟨h.me,h.ms,rY,⟨h.op.nd,h.op.l6⟩,h.ev,h.oc,fun e he v zR=>(Cv e he v zR).1,h.bQ,h.b,h.s1,fun e he v zR=>(Cv e he v zR).2⟩;by_cases mE:iC (bI 0 (aQ (bS x aM vs).aV)) x.ae=true
  ·rw[if_pos mE];dsimp only
   generalize Lr:({bS x aM vs with st:=2}:aE)=x2;have e2:x2.me=x.me∧x2.ae=x.ae∧x2.b=x.b∧x2.al=x.al∧x2.bQ=x.bQ∧x2.dT=x.dT∧x2.st=2∧x2.aV=(bS x aM vs).aV:=by
    subst Lr;exact⟨rfl,rfl,rfl,rfl,rfl,rfl,rfl,rfl⟩
   obtain⟨z1,z2,z3,z4,z5,z6,z7,z8⟩:=e2;have u0:fj x2:=by subst Lr;exact⟨rY.nd,rY.k5,rY.I7⟩
   have ho2:ee x2:=by subst Lr;exact⟨h.op.nd,h.op.l6⟩
   have nh:∀v∈ey (eV x2),(ao v).check=0∧x.al≤v.slot∧v.slot<512:=fun v hv=>by
    obtain⟨e,he,zR⟩:=Qq u0 hv;have Nh:=he;rw[z8]at Nh;exact⟨(Cv e Nh v zR).1,(Cv e Nh v zR).2,((u0.I7 e he).2 v zR).2⟩
   have hF:=Jt (ey (eV x2)) x2 ho2 (by have:=h.bQ;omega) (TA u0) (fun v hv=>by have:=(nh v hv).2.1;omega);have hO:=(ho2.fill (by have:=h.bQ;omega) (ey (eV x2))).1;generalize dD x2 (ey (eV x2))=y at hF hO;have hyc:∀e∈y.dT,e.2.2=0∧e.2.1.check=0:=fun e he=>by
    rcases hF.new e he with q|⟨_,_,q3,q4⟩
    ·rw[z6,iZ]at q;cases q
    ·refine⟨q3,?_⟩;rcases q4 with⟨v,hv,q5,q6⟩|⟨q5,_⟩
     ·rw[←q6];exact(nh v hv).1
     ·rw[q5];rfl
   refine⟨⟨by rw[hF.me,z1];exact h.me,by rw[hF.ms,z2];exact h.ms,⟨by rw[hF.aV];exact u0.nd,by rw[hF.aV];exact u0.k5,by rw[hF.aV];exact u0.I7⟩,hO,fun e he=>by rw[(hyc e he).1];decide,fun e he=>(hyc e he).2,fun e he v zR=>?_,⟨by have:=hF.ge;have:=h.bQ;omega,hF.top (by have:=h.bQ;omega) fun v hv=>(nh v hv).2.2⟩,by rw[hF.b,z3];exact h.b,fun e=>?_,fun e he v zR=>?_⟩,fun v hv=>?_⟩
   ·rw[hF.aV,z8]at he;exact(Cv e he v zR).1
   ·rw[hF.st,z7]at e;exact absurd e (by decide)
   ·rw[hF.aV,z8]at he;rw[hF.al,z4];exact(Cv e he v zR).2
   ·unfold bc at hv;rw[List.mem_map]at hv;obtain⟨w,hw,rfl⟩:=hv;obtain⟨e,he,rfl⟩:=List.mem_map.1 (dI.1 hw);unfold kV;rw[(bX hO.nd).2 (show(e.1,e.2)∈y.dT from he),jo];exact(hyc e he).2
  ·rw[if_neg mE];exact⟨hL1,by simp⟩
 ·rw[if_neg hg];exact⟨h,by simp⟩
theorem PX.bA {p:aE×Bool} (h:PX p) {x:aE} (hx:∀me ms,p.1=nE me ms→x=nE me ms):PX (x,p.2):=fun e=>by
 obtain⟨me,ms,h⟩:=h e;exact⟨me,ms,hx me ms h⟩
theorem c9.lead {s:MS} (H:c9 s) {x:aE} (hx:v8 x) (hp:PX (x,s.p.2)):c9 {s with p:=(x,s.p.2)}:=⟨H.me,H.ms,hp,hx,H.qk,H.qc,H.qp,H.kn,H.kK,H.lE,H.nd,H.nc⟩
theorem G4 (me ms b slot aM:Int):ax (nE me ms) b slot aM=(nE me ms,dX,false):=by
 unfold ax;rw[if_neg fun h=>absurd (show(0:Int)=2 from h.1.1) (by decide)]
theorem ML (me ms b:Int):cP (nE me ms) b=(nE me ms,false):=by unfold cP;rw[if_pos (.inl rfl)]
theorem Ju (me ms b aM:Int) (vs:List ak):bY (nE me ms) b aM vs=(nE me ms,[],false):=by unfold bY;rw[if_neg fun h=>absurd (show(0:Int)=1 from h.1.1) (by decide)]
theorem Jv (me ms:Int) (c:cA):aD (nE me ms) c=(nE me ms,dX,12):=by unfold aD;rw[if_pos (show(0:Int)≠2 by decide)]
theorem c9.accepted {s:MS} (H:c9 s) (b slot aM:Int):c9 {s with p:=((ax s.p.1 b slot aM).1,s.p.2)}:=
 H.lead (H.lw.accepted b slot aM).1 (H.px.bA fun me ms e=>by rw[e,G4])
theorem c9.refuse {s:MS} (H:c9 s) (b:Int):c9 {s with p:=((cP s.p.1 b).1,s.p.2)}:=
 H.lead (H.lw.refuse b) (H.px.bA fun me ms e=>by rw[e,ML])
theorem c9.promise {s:MS} (H:c9 s) (b aM:Int) (vs:List ak) (hl:vs.length≤600) (hv:∀v∈vs,vV v.slot) (Vp:∀v∈vs,(ao v).check=0):c9 {s with p:=((bY s.p.1 b aM vs).1,s.p.2)}:=
 H.lead (H.lw.promise b aM vs hl hv Vp).1 (H.px.bA fun me ms e=>by rw[e,Ju])
theorem c9.pc {s:MS} (H:c9 s) (c:cA):c9 {s with p:=((aD s.p.1 c).1,s.p.2)}:=
 H.lead (H.lw.pc c) (H.px.bA fun me ms e=>by rw[e,Jv])
@[reducible] def MN (s:MS) (b slot aM:Int):MS:={s with p:=((ax s.p.1 b slot aM).1,s.p.2)}
def Ae (s:MS) (b slot aM:Int) (s':MS):Prop:=
 if(ax s.p.1 b slot aM).2.2=true then qJ (bz (MN s b slot aM) (pb (ax s.p.1 b slot aM).2.1.slot (ao (ax s.p.1 b slot aM).2.1))) (ax s.p.1 b slot aM).2.1.slot (ao (ax s.p.1 b slot aM).2.1) s'
 else s'=MN s b slot aM
theorem TB {s:MS} {b slot aM:Int} (h:(ax s.p.1 b slot aM).2.2=false):Ae s b slot aM (MN s b slot aM):=by
 unfold Ae;rw[if_neg (by rw[h];decide)]
theorem Qr {s s':MS} {b slot aM:Int} (h:(ax s.p.1 b slot aM).2.2=true) (hL:qJ (bz (MN s b slot aM) (pb (ax s.p.1 b slot aM).2.1.slot (ao (ax s.p.1 b slot aM).2.1))) (ax s.p.1 b slot aM).2.1.slot (ao (ax s.p.1 b slot aM).2.1) s'):Ae s b slot aM s':=by
 unfold Ae;rw[if_pos h];exact hL
theorem r9 (s:MS) (H:c9 s) (m:dr) (hf:100<m.al∧m.al≤105) (hl:s.out.length<48000):VC E0 23 1 [.ptr 0 0,.agg (az {m with kind:=4})] (bD s) (RS (Ae s m.ai m.slot (m.al - 100))):=by
 have hw:IntKind.i64.wrap (m.al - 100)=m.al - 100:=IntWalk.i64_in _ om;have H1:=H.accepted m.ai m.slot (m.al - 100);have oz:=(H.lw.accepted m.ai m.slot (m.al - 100)).2;obtain⟨me,ms,nodes,fA,a8,quiet,waited,q,kn,K,l,⟨x,f⟩,out⟩:=s;cases f
 all_goals
  refine en L0 Tryz.f23 ?_;refine rn ?_;rw[hw];refine⟨[],[some 2],_,_,_,_,D2 (x,_) H.px m.ai m.slot (m.al - 100) H.lw.ms H.lw.ev H.lw.op.nd,t3,?_⟩;rintro r o' c' ⟨rfl,rfl,rfl⟩;have bm:=True.intro;clear bm;cases hb:(ax x m.ai m.slot (m.al - 100)).2.2
  ·refine wh ?_;exact⟨[],[some 0],_,_,_,t3,⟨_,TB hb,rfl,rfl,rfl⟩⟩
  ·refine wh ?_;refine⟨[],[some 0],_,_,_,_,Js _ H1 (pb (ax x m.ai m.slot (m.al - 100)).2.1.slot (ao (ax x m.ai m.slot (m.al - 100)).2.1)) (m7 (oz hb)) (by show out.length<49000;exact Nat.lt_of_lt_of_le hl (by decide)),t3,?_⟩;rintro r o' c' ⟨s',kp,rfl,rfl,rfl⟩;refine wh ?_;exact⟨[],[some 0],_,_,_,t3,⟨_,Qr hb kp,rfl,rfl,rfl⟩⟩
@[reducible] def uH (b:Int):dr:=⟨8,0,0,b,0,aH,aY,[]⟩
@[reducible] def gq (s:MS) (b:Int):MS:={s with p:=((cP s.p.1 b).1,s.p.2)}
def Bi (s:MS) (to:Int):MS:=if to=bJ s then gq s s.q.1 else xB s (uH s.q.1) to
def Af (s:MS) (b slot to:Int) (m:dr) (s':MS):Prop:=if to=bJ s then Ae s b slot s.me s' else s'=xB s m to
theorem Ej (s:MS) (H:c9 s) (m:dr) (to:Int) (hl:s.out.length<48000):VC E0 53 1 [.ptr 0 0,.agg (az {m with kind:=4}),.s (.int .i64 to)] (bD s) (RS (Af s m.ai m.slot to {m with kind:=4})):=by
 unfold Af;have jF:=H.me;by_cases h:to=bJ s
 ·subst h;simp only[if_true];have e:bJ s - 100=s.me:=by show 100+s.me - 100=s.me;omega
  have gQ:=r9 s H {m with al:=bJ s,to:=bJ s} (by show 100<100+s.me∧100+s.me≤105;omega) hl;dsimp only at gQ;rw[e]at gQ;refine en L0 Tryz.f53 ?_;refine⟨[],[some 0],_,_,_,_,cy s jF,t3,cw ?_⟩;refine⟨[],[some 0],_,_,_,_,cy s jF,t3,cw ?_⟩;refine sp ?_ ?_<;>intro h1;rotate_left
  ·exact absurd rfl h1
  ·refine wh ?_;refine⟨[],[some 0],_,_,_,_,gQ,t3,?_⟩;rintro r o' c' ⟨s',kp,rfl,rfl,rfl⟩;refine wh ?_;exact⟨[],[some 0],_,_,_,t3,⟨_,kp,rfl,rfl,rfl⟩⟩
 ·simp only[if_neg h];refine VC.told (w7 s {m with kind:=4} to jF h om) ?_;rintro r o' c' ⟨rfl,rfl,rfl⟩;exact⟨[],[some 0],_,_,_,t3,⟨_,rfl,rfl,rfl,rfl⟩⟩
theorem w9 (s:MS) (H:c9 s) (m:dr):VC E0 23 1 [.ptr 0 0,.agg (az {m with kind:=8})] (bD s) (RR (.dk []) 1 (bD (gq s m.ai))):=by
 obtain⟨me,ms,nodes,fA,a8,quiet,waited,q,kn,K,l,⟨x,f⟩,out⟩:=s;cases f
 all_goals
  refine en L0 Tryz.f23 ?_;refine rn ?_;refine⟨[],[some 2],_,_,_,_,mg (x,_) H.px m.ai,t3,cw ?_⟩;exact⟨[],[some 0],_,_,_,t3,rfl,rfl,rfl⟩
theorem Jw (s:MS) (H:c9 s) (to:Int) (hl:s.out.length<48000):VC E0 53 1 [.ptr 0 0,.agg (az (uH s.q.1)),.s (.int .i64 to)] (bD s) (RR (.dk []) 1 (bD (Bi s to))):=by
 unfold Bi;have jF:=H.me;by_cases h:to=bJ s
 ·subst h;simp only[if_true];refine en L0 Tryz.f53 ?_;refine⟨[],[some 0],_,_,_,_,cy s jF,t3,cw ?_⟩;refine⟨[],[some 0],_,_,_,_,cy s jF,t3,cw ?_⟩;refine sp ?_ ?_<;>intro h1;rotate_left
  ·exact absurd rfl h1
  ·refine wh ?_;refine⟨[],[some 0],_,_,_,_,w9 s H {uH s.q.1 with al:=bJ s,to:=bJ s},t3,cw ?_⟩;exact⟨[],[some 0],_,_,_,t3,rfl,rfl,rfl⟩
 ·simp only[if_neg h];exact w7 s (uH s.q.1) to jF h om
theorem Ek (s:MS) (H:c9 s) (m:dr) (hl:s.out.length<48000):VC E0 93 1 [.ptr 0 0,.agg (az m)] (bD s) (RR (.dk []) 1 (bD (Bi s m.al))):=by
 refine en L0 Tryz.f93 ?_;refine⟨[],[some 2],_,_,_,_,gW s.q,t3,cw ?_⟩;refine⟨[],[some 0],_,_,_,_,Jw s H m.al hl,t3,cw ?_⟩;exact⟨[],[some 0],_,_,_,t3,rfl,rfl,rfl⟩
theorem c9.nB {s:MS} (H:c9 s):c9 {s with quiet:=0}:=⟨H.me,H.ms,H.px,H.lw,H.qk,H.qc,H.qp,H.kn,H.kK,H.lE,H.nd,H.nc⟩
@[reducible] def lA (b slot:Int):dr:=⟨4,0,0,b,slot,aH,aY,[]⟩
def Ag (s:MS) (b slot to e:Int) (s':MS):Prop:=
 if e=0 then Af {s with quiet:=0} b slot to (lA b slot) s' else if e=10 then s'=Bi s to else s'=s
theorem Qs (s:MS) (H:c9 s) (m:dr) (b slot e:Int) (hl:s.out.length<48000):VC E0 95 1 [.ptr 0 0,.agg (az m),.s (.int .i64 e),.agg (az (lA b slot))] (bD s) (RS (Ag s b slot m.al e)):=by
 unfold Ag;refine en L0 Tryz.f95 ?_;refine sp ?_ ?_<;>intro h1
 ·have h1:e=0:=h1;subst h1;simp only[if_true];refine wh ?_;refine⟨[],[some 0],_,_,_,_,Ej {s with quiet:=0} H.nB (lA b slot) m.al hl,t3,?_⟩;rintro r o' c' ⟨s',kp,rfl,rfl,rfl⟩;refine wh ?_;exact⟨[],[some 0],_,_,_,t3,⟨_,kp,rfl,rfl,rfl⟩⟩
 ·have h1:¬e=0:=h1;simp only[if_neg h1];refine wh ?_;refine sp ?_ ?_<;>intro h2
  ·have h2:e=10:=h2;simp only[if_pos h2];refine wh ?_;refine⟨[],[some 0],_,_,_,_,Ek s H m hl,t3,cw ?_⟩;exact⟨[],[some 0],_,_,_,t3,⟨_,rfl,rfl,rfl,rfl⟩⟩
  ·have h2:¬e=10:=h2;simp only[if_neg h2];refine wh ?_;exact⟨[],[some 0],_,_,_,t3,⟨_,rfl,rfl,rfl,rfl⟩⟩
theorem c9.acc {s:MS} (H:c9 s) {b:Int} (hb:0≤b∧b≤18446744073709551615) (slot:Int) (c:cA):c9 {s with q:=((eN s.q.1 s.q.2 b slot c).1,(eN s.q.1 s.q.2 b slot c).2.1)}:=by
 refine⟨H.me,H.ms,H.px,H.lw,(SY H.qk).1,?_,?_,H.kn,H.kK,H.lE,H.nd,H.nc⟩
 ·show∀e∈(eN s.q.1 s.q.2 b slot c).2.1,(ao e.2).check=0;unfold eN;split
  ·exact H.qc
  split
  ·exact H.qc
  split
  ·exact H.qc
  rename_i h1 h2 h3;intro e he;rcases(ir H.qk.mv.nd).1 he with rfl |⟨_,q⟩
  ·show(ao (.of slot b c)).check=0;rw[jo];exact Classical.not_not.1 h2
  ·exact H.qc e q
 ·show 0≤(eN s.q.1 s.q.2 b slot c).1∧(eN s.q.1 s.q.2 b slot c).1≤18446744073709551615;unfold eN;split
  ·exact H.qp
  split
  ·exact H.qp
  split
  ·exact H.qp
  exact hb
@[reducible] def G5 (s:MS) (b slot:Int) (c:cA):MS:={s with q:=((eN s.q.1 s.q.2 b slot c).1,(eN s.q.1 s.q.2 b slot c).2.1)}
def kf (s:MS) (b slot:Int) (c:cA) (al:Int) (s':MS):Prop:=
 Ag (G5 (gq s b) b slot c) b slot al (eN s.q.1 s.q.2 b slot c).2.2 s'
theorem El (s:MS) (H:c9 s) (m:dr) (hb:0≤m.ai∧m.ai≤18446744073709551615) (hl:s.out.length<48000):VC E0 42 1 [.ptr 0 0,.agg (az {m with kind:=3})] (bD s) (RS (kf s m.ai m.slot m.cmd m.al)):=by
 have H1:=(H.refuse m.ai).acc hb m.slot m.cmd;obtain⟨me,ms,nodes,fA,a8,quiet,waited,q,kn,K,l,⟨x,f⟩,out⟩:=s;cases f
 all_goals
  refine en L0 Tryz.f42 ?_;refine rn ?_;refine⟨[],[some 2],_,_,_,_,mg (x,_) H.px m.ai,t3,cw ?_⟩;refine rn ?_;refine⟨[],[some 4],_,_,_,_,Jf q m.ai m.slot m.cmd,t3,cw ?_⟩;refine⟨[],[some 0],_,_,_,_,Qs _ H1 {m with kind:=3} m.ai m.slot (eN q.1 q.2 m.ai m.slot m.cmd).2.2 hl,t3,?_⟩;rintro r o' c' ⟨s',kp,rfl,rfl,rfl⟩;refine wh ?_;exact⟨[],[some 0],_,_,_,t3,⟨_,kp,rfl,rfl,rfl⟩⟩
theorem xc (s:MS) (H:c9 s) (m:dr) (hb:0≤m.ai∧m.ai≤18446744073709551615) (hl:s.out.length<48000):VC E0 23 1 [.ptr 0 0,.agg (az {m with kind:=3})] (bD s) (RS (kf s m.ai m.slot m.cmd m.al)):=by
 refine en L0 Tryz.f23 ?_;refine rn ?_;refine⟨[],[some 0],_,_,_,_,El s H m hb hl,t3,?_⟩;rintro r o' c' ⟨s',kp,rfl,rfl,rfl⟩;refine wh ?_;exact⟨[],[some 0],_,_,_,t3,⟨_,kp,rfl,rfl,rfl⟩⟩
theorem Jx (s:MS) (H:c9 s) (m:dr) (hb:0≤m.ai∧m.ai≤18446744073709551615) (hl:s.out.length<48000):VC E0 53 1 [.ptr 0 0,.agg (az {m with kind:=3}),.s (.int .i64 (bJ s))] (bD s) (RS (kf s m.ai m.slot m.cmd (bJ s))):=by
 have jF:=H.me;refine en L0 Tryz.f53 ?_;refine⟨[],[some 0],_,_,_,_,cy s jF,t3,cw ?_⟩;refine⟨[],[some 0],_,_,_,_,cy s jF,t3,cw ?_⟩;refine sp ?_ ?_<;>intro h1;rotate_left
 ·exact absurd rfl h1
 ·refine wh ?_;refine⟨[],[some 0],_,_,_,_,xc s H {m with al:=bJ s,to:=bJ s} hb hl,t3,?_⟩;rintro r o' c' ⟨s',kp,rfl,rfl,rfl⟩;refine wh ?_;exact⟨[],[some 0],_,_,_,t3,⟨_,kp,rfl,rfl,rfl⟩⟩
@[reducible] def lu (v:ak):dr:=⟨3,0,0,v.ai,v.slot,ao v,aY,[]⟩
theorem Jy (s:MS) (H:c9 s) (m:dr) (hb:0≤m.ai∧m.ai≤18446744073709551615) (hl:s.out.length<47000):VC E0 45 1 [.ptr 0 0,.agg (az {m with kind:=3})] (bD s) (RS (kf (bz s {m with kind:=3}) m.ai m.slot m.cmd (bJ s))):=by
 have jF:=H.me;have gR:=H.ms;refine en L0 Tryz.f45 ?_;refine⟨[],[some 0],_,_,_,_,rC s {m with kind:=3} jF om om,t3,cw ?_⟩;refine⟨[],[some 0],_,_,_,_,cy (bz s {m with kind:=3}) jF,t3,cw ?_⟩;have hol:=mu s {m with kind:=3} s.ae.toNat
 refine⟨[],[some 0],_,_,_,_,Jx (bz s {m with kind:=3}) (H.outs _) m hb (by rw[List.length_append];omega),t3,?_⟩;rintro r o' c' ⟨s',kp,rfl,rfl,rfl⟩;refine wh ?_;exact⟨[],[some 0],_,_,_,t3,⟨_,kp,rfl,rfl,rfl⟩⟩
theorem TC {l:List CF} {c:cA} (h:jU l c=0) (hk:c.kind≠0):fU l∧c.check=0∧∃aN:c.chain.toNat<l.length,jA l l[c.chain.toNat] c.kind c.node=0:=by
 obtain⟨ha,oz,aN,_⟩:=Ec h hk;refine⟨ha,oz,aN,?_⟩;unfold jU at h;rw[if_neg (fun q=>q ha),if_neg (fun q=>q oz),if_neg hk,List.getElem?_eq_getElem aN]at h;dsimp only at h;by_cases he:l[c.chain.toNat].aq≠c.aq
 ·rw[if_pos he]at h;exact absurd h (by decide)
 ·rw[if_neg he,D7 (ke ha (List.getElem_mem aN))]at h;by_cases hz:jA l l[c.chain.toNat] c.kind c.node≠0
  ·rw[if_pos hz]at h;exact absurd h hz
  ·exact Classical.not_not.1 hz
theorem s9 {l l':List Int} (h:e8 l) (hs:l'.Sublist l):e8 l':=⟨h.1.sublist hs,fun n hn=>h.2 n (hs.subset hn)⟩
theorem Ah {l:List CF} {i:Nat} (hi:i<l.length) (y:CF):gz (l.set i y)=gz (l.take i)++(aG y++gz (l.drop (i+1))):=by
 unfold gz;rw[List.set_eq_take_append_cons_drop,if_pos hi,List.flatMap_append,List.flatMap_cons]
theorem KJ {l:List CF} {i:Nat} (hi:i<l.length):gz l=gz (l.take i)++(aG l[i]++gz (l.drop (i+1))):=by
 have:=Ah hi l[i]
 rwa [List.set_getElem_self hi]at this
theorem Qt {l:List CF} {i:Nat} (h:fU l) (hi:i<l.length) {y:CF} (hc:y.chain=l[i].chain) (hr:iH y) (hu:e8 (gz (l.set i y))):fU (l.set i y):=by
 refine⟨by rw[List.length_set];exact h.1,fun j hj=>?_,hu⟩;rw[List.length_set]at hj;rw[List.getElem_set];split
 ·rename_i e;subst e;exact⟨hc.trans (h.2.1 i hi).1,hr⟩
 ·exact h.2.1 j hj
theorem Qu {l:List CF} {i:Nat} (h:fU l) (hi:i<l.length) {y:CF} (hs:(aG y).Sublist (aG l[i])):e8 (gz (l.set i y)):=by
 refine s9 h.2.2 ?_;rw[Ah hi,KJ hi];exact(List.Sublist.refl _).append (hs.append (List.Sublist.refl _))
theorem MP {l:List CF} {c:cA} (h:fU l) (hk:c.kind≠0) (oz:c.check=0) (hi:c.chain.toNat<l.length) (hK:jA l l[c.chain.toNat] c.kind c.node=0):fU (l.set c.chain.toNat (mi l[c.chain.toNat] c.kind c.node)):=by
 have mH:=oj oz hk;generalize c.chain.toNat=i at hi hK ⊢;have hx:=(h.2.1 i hi).2;have bR:∀y,aG y=y.nodes++(if y.join=0 then []else [y.join]):=fun _=>rfl;have fT:=G1 l[i] c.kind c.node;obtain⟨r1,r2,r3,r4,r5⟩:=hx;have u4:=KJ hi;have nv:=fun {y:CF}=>Qu h hi (y:=y);generalize LN:l[i]=x at*
 unfold jA at hK;refine Qt h hi (by rw[LN];exact fT.2) ?_ ?_
 ·-- it may be
  refine⟨by rw[fT.2];exact r1,by rw[fT.1];omega,?_⟩;unfold mi;by_cases k1:c.kind=1
  ·rw[if_pos k1]at hK ⊢;split at hK
   ·cases hK
   split at hK
   ·cases hK
   rename_i a b;have b:(eO x).any (jV c.node)=true:=by simpa using b
   obtain⟨m,hm,J5⟩:=List.any_eq_true.1 b;have J5:m≠c.node:=of_decide_eq_true J5;by_cases hj:x.join=c.node
   ·rw[if_pos hj];refine⟨r3,fun hf=>?_,s9 r5 ?_⟩
    ·exact⟨(r4 hf).1,rfl⟩
    ·rw[bR,bR];simp
   ·rw[if_neg hj];have hmN:m∈x.nodes:=by
     unfold eO at hm;split at hm
     ·exact List.mem_of_mem_take hm
     ·exact hm
    have CX:1≤(cg x.nodes c.node).length:=List.length_pos_of_mem (List.mem_filter.2 ⟨hmN,by simpa using J5⟩);have hle:(cg x.nodes c.node).length≤x.nodes.length:=List.length_filter_le _ _;refine⟨⟨CX,Nat.le_trans hle r3.2⟩,fun hf=>?_,s9 r5 ?_⟩
    ·have hf:(x.fresh&&decide (iT x≠c.node))=true:=hf;rw[Bool.and_eq_true,decide_eq_true_iff]at hf;obtain⟨f1,f2⟩:=hf;obtain⟨q1,q2⟩:=r4 f1;refine⟨?_,q2⟩;show 2≤(cg x.nodes c.node).length;have bH:x.nodes≠[]:=fun e=>by rw[e]at q1;simp at q1
     have vk:x.nodes=x.nodes.take (x.nodes.length - 1)++[iT x]:=by
      have h1:=(List.dropLast_concat_getLast bH).symm;unfold iT;rw[List.getLast?_eq_some_getLast bH,Option.getD_some,←List.dropLast_eq_take];exact h1
     have hm2:m∈x.nodes.take (x.nodes.length - 1):=by
      unfold eO at hm;rw[if_pos f1]at hm;exact hm
     unfold cg;rw[vk,List.filter_append,List.length_append];have g1:1≤((x.nodes.take (x.nodes.length - 1)).filter fun x=>decide (x≠c.node)).length:=List.length_pos_of_mem (List.mem_filter.2 ⟨hm2,by simpa using J5⟩);have g2:([iT x].filter fun x=>decide (x≠c.node))=[iT x]:=by simp[f2]
     rw[g2];simp only[List.length_cons,List.length_nil];omega
    ·rw[bR,bR];exact(List.filter_sublist).append (List.Sublist.refl _)
  rw[if_neg k1]at hK ⊢;by_cases k2:c.kind=2
  ·rw[if_pos k2]at hK ⊢;split at hK
   ·cases hK
   split at hK
   ·cases hK
   split at hK
   ·cases hK
   rename_i a b d;have hj:x.join=0:=by omega
   have hff:x.fresh=false:=by
    cases hq:x.fresh with
    |true=>exact absurd (.inr hq) b
    |false=>rfl
   refine⟨r3,fun hf=>?_,?_⟩
   ·have hf:x.fresh=true:=hf;rw[hff]at hf;cases hf
   ·have hn:c.node∉x.nodes:=fun hn=>a (by rw[u4,bR];simp[hn]);rw[bR]at r5 ⊢;rw[if_pos hj,List.append_nil]at r5;rw[if_neg (show¬c.node=0 by omega)];exact⟨List.nodup_append.2 ⟨r5.1,by simp,fun u hu v hv=>by simp at hv;subst hv;exact fun e=>hn (e▸hu)⟩,fun u hu=>by
     rcases List.mem_append.1 hu with q|q
     ·exact r5.2 u q
     ·simp at q;subst q;exact mH.2.2.2.2⟩
  rw[if_neg k2]at hK ⊢;by_cases k3:c.kind=3
  ·rw[if_pos k3]at hK ⊢;split at hK
   ·cases hK
   split at hK
   ·cases hK
   rename_i a b;have hj:x.join=c.node:=Classical.not_not.1 a;refine⟨by simp;omega,fun _=>⟨by simp;omega,rfl⟩,?_⟩;rw[bR]at r5 ⊢;rw[if_neg om,hj]at r5;simpa using r5
  ·rw[if_neg k3];exact⟨r3,(fun hf=>by cases hf),r5⟩
 ·-- none stands twice
  unfold mi;by_cases k1:c.kind=1
  ·rw[if_pos k1];by_cases hj:x.join=c.node
   ·rw[if_pos hj];refine nv ?_;rw[bR,bR];simp
   ·rw[if_neg hj];refine nv ?_;rw[bR,bR];exact(List.filter_sublist).append (List.Sublist.refl _)
  rw[if_neg k1]at hK ⊢;by_cases k2:c.kind=2
  ·rw[if_pos k2]at hK ⊢;split at hK
   ·cases hK
   split at hK
   ·cases hK
   rename_i a b;have hj:x.join=0:=by omega
   have hu:=h.2.2;rw[Ah hi,bR];rw[u4,bR,if_pos hj,List.append_nil]at hu;rw[u4,bR,if_pos hj,List.append_nil]at a;rw[if_neg (show¬c.node=0 by omega)];have hp:(gz (l.take i)++(x.nodes++[c.node]++gz (l.drop (i+1)))).Perm (c.node::(gz (l.take i)++(x.nodes++gz (l.drop (i+1))))):=by
    have:gz (l.take i)++(x.nodes++[c.node]++gz (l.drop (i+1)))=(gz (l.take i)++x.nodes)++(c.node::gz (l.drop (i+1))):=by simp
    rw[this];refine List.perm_middle.trans ?_;rw[List.append_assoc]
   exact⟨hp.symm.nodup (List.nodup_cons.2 ⟨a,hu.1⟩),fun n hn=>by
    rcases List.mem_cons.1 (hp.subset hn)with rfl |q
    ·exact mH.2.2.2.2
    ·exact hu.2 n q⟩
  rw[if_neg k2]at hK ⊢;by_cases k3:c.kind=3
  ·rw[if_pos k3]at hK ⊢;split at hK
   ·cases hK
   rename_i a;have hj:x.join=c.node:=Classical.not_not.1 a;refine nv ?_;rw[bR,bR,if_neg (show¬x.join=0 by omega),hj];simp
  ·rw[if_neg k3];exact nv (List.Sublist.refl _)
theorem KK {l:List CF} (h:fU l) (c:cA):fU (mD l c).1:=by
 unfold mD;by_cases hc:jU l c≠0
 ·rw[if_pos hc];exact h
 ·rw[if_neg hc];by_cases hk:c.kind=0
  ·rw[if_pos hk];exact h
  ·rw[if_neg hk];obtain⟨_,oz,aN,hK⟩:=TC (Classical.not_not.1 hc) hk;rw[List.getElem?_eq_getElem aN];exact MP h hk oz aN hK
theorem bu {l:List CF} (h:fU l) (K:List ak):∀n,fU (bf K l n).2
 |0=>h
 |n+1=>by
  have ih:=bu h K n;unfold bf;cases K[n]? with
  |none=>exact ih
  |some v=>exact KK ih _
def m8 (a b:List CF):Prop:=a.length=b.length∧∀(i:Nat) x y,a[i]? =some x→b[i]? =some y→x.aq≤y.aq∧(x.aq=y.aq→x=y)
theorem m8.refl (a:List CF):m8 a a:=⟨rfl,fun i x y h k=>by rw[h]at k;cases k;exact⟨Int.le_refl _,fun _=>rfl⟩⟩
theorem m8.trans {a b c:List CF} (h:m8 a b) (k:m8 b c):m8 a c:=by
 refine⟨h.1.trans k.1,fun i x z hx hz=>?_⟩;have hi:i<b.length:=by have:=(List.getElem?_eq_some_iff.1 hx).1;have:=h.1;omega
 obtain⟨h1,h2⟩:=h.2 i x b[i] hx (List.getElem?_eq_getElem hi);obtain⟨k1,k2⟩:=k.2 i b[i] z (List.getElem?_eq_getElem hi) hz;exact⟨om,fun e=>(h2 om).trans (k2 om)⟩
theorem TD (l:List CF) (c:cA):m8 l (mD l c).1:=by
 unfold mD;split
 ·exact .refl l
 split
 ·exact .refl l
 split
 ·exact .refl l
 ·rename_i x hx;obtain⟨hi,hx⟩:=List.getElem?_eq_some_iff.1 hx;refine⟨by rw[List.length_set],fun j y z hy hz=>?_⟩;by_cases e:c.chain.toNat=j
  ·subst e;rw[List.getElem?_set_self hi]at hz;rw[List.getElem?_eq_getElem hi]at hy;cases hy;cases hz;have:=(G1 x c.kind c.node).1;rw[hx];exact⟨om,fun e=>by omega⟩
  ·rw[List.getElem?_set_ne e]at hz;rw[hy]at hz;cases hz;exact⟨Int.le_refl _,fun _=>rfl⟩
theorem Cw (K:List ak) (l:List CF) (n:Nat):∀k,m8 (bf K l n).2 (bf K l (n+k)).2
 |0=>.refl _
 |k+1=>by
  have ih:=Cw K l n k;refine ih.trans ?_;rw[←Nat.add_assoc];show m8 _ (bf K l (n+k+1)).2;rw[bf];cases K[n+k]? with
  |none=>exact .refl _
  |some v=>exact TD _ _
theorem Jz {K:List ak} (hK:AN K) (l:List CF) (slot:Int) (c:cA):m8 (bf K l (aK K)).2 (bf (br K l slot c).1 l (aK (br K l slot c).1)).2:=by
 unfold br;split
 ·exact .refl _
 split
 ·exact .refl _
 split
 ·exact .refl _
 ·rename_i h1 h2 h3;obtain⟨h4,h5⟩:=pa (l:=l) hK (slot:=slot) (c:=c) om (Bool.not_eq_true _▸h3);show m8 _ (bf (put K (.of slot 0 c)) l (aK (put K (.of slot 0 c)))).2;have:=Cw (put K (.of slot 0 c)) l (aK K) (aK (put K (.of slot 0 c)) - aK K);rw[h5,show aK K+(aK (put K (.of slot 0 c)) - aK K)=aK (put K (.of slot 0 c)) by omega]at this;exact this
noncomputable def cN (s:MS):Nat:=(iU s.K s.l).length
structure Gr (s s':MS) (k:Nat):Prop where
 ok:c9 s'
 me:s'.me=s.me
 ms:s'.ae=s.ae
 l:s'.l=s.l
 no:s'.nodes=s.nodes
 tk:s'.a8=s.a8
 kr:m8 (bf s.K s.l (aK s.K)).2 (bf s'.K s'.l (aK s'.K)).2
 out:s'.out.length+7*cN s≤s.out.length+7*cN s'+k
theorem Gr.refl {s:MS} (H:c9 s):Gr s s 0:=⟨H,rfl,rfl,rfl,rfl,rfl,.refl _,om⟩
theorem Gr.trans {s s1 s2:MS} {a b:Nat} (h:Gr s s1 a) (k:Gr s1 s2 b):Gr s s2 (a+b):=
 ⟨k.ok,k.me.trans h.me,k.ms.trans h.ms,k.l.trans h.l,k.no.trans h.no,k.tk.trans h.tk,h.kr.trans k.kr,by have:=h.out;have:=k.out;omega⟩
theorem Gr.le {s s':MS} {a b:Nat} (h:Gr s s' a) (LP:a≤b):Gr s s' b:=⟨h.ok,h.me,h.ms,h.l,h.no,h.tk,h.kr,by have:=h.out;omega⟩
theorem aaH {s:MS} (H:c9 s):cN s<900:=by
 unfold cN iU;have h1:=rB s.K s.l (aK s.K);have h2:=zV s.K;have h3:=H.kK.len;omega
theorem Gr.lt {s s':MS} {k:Nat} (_:c9 s) (h:Gr s s' k):s'.out.length≤s.out.length+k+6300:=by
 have:=h.out;have:=aaH h.ok;omega
theorem ot {s:MS} (H:c9 s) (m:dr):Gr s (bz s m) 5:=by
 refine⟨H.outs _,rfl,rfl,rfl,rfl,rfl,.refl _,?_⟩;have h1:=mu s m s.ae.toNat
 have h2:=H.ms;show(s.out++mL s m s.ae.toNat).length+7*cN s≤s.out.length+7*cN s+5;rw[List.length_append];omega
theorem xZ {s:MS} (H:c9 s) (m:dr) (to:Int):Gr s (xB s m to) 1:=by
 refine⟨H.outs _,rfl,rfl,rfl,rfl,rfl,.refl _,?_⟩;show(s.out++[gK s m to]).length+7*cN s≤s.out.length+7*cN s+1;rw[List.length_append];simp;omega
theorem Ai {s s':MS} (H:c9 s) {slot:Int} {c:cA} (hc:0≤c.aq) (h:qJ s slot c s'):Gr s s' 0:=by
 obtain⟨rN,rfl,hk⟩:=h;obtain⟨h1,h2,h3⟩:=s7 H.kK H.lE slot c hc;refine⟨⟨H.me,H.ms,H.px,H.lw,H.qk,H.qc,H.qp,hk,h1,H.lE,H.nd,H.nc⟩,rfl,rfl,rfl,rfl,rfl,Jz H.kK s.l slot c,?_⟩;have h6:∀x∈(br s.K s.l slot c).2.1,x.nodes.length≤6:=fun x hx=>xY H.lE _ x (h2 x hx);have h4:=Ad s (br s.K s.l slot c).2.1 h6;have h5:(br s.K s.l slot c).2.1.length+(iU s.K s.l).length≤(iU (br s.K s.l slot c).1 s.l).length:=by
  unfold br;split
  ·simp
  split
  ·simp
  split
  ·simp
  rename_i g1 g2 g3;have hp:=(Mo H.kK (l:=s.l) (slot:=slot) (c:=c) om (Bool.not_eq_true _▸g3)).length_le;show((iU (put s.K (.of slot 0 c)) s.l).drop (iU s.K s.l).length).length+_≤(iU (put s.K (.of slot 0 c)) s.l).length;rw[List.length_drop];omega
 show(s.out++(if s.p.1.st=2 then ic s (br s.K s.l slot c).2.1 else [])).length+7*(iU s.K s.l).length≤s.out.length+7*(iU (br s.K s.l slot c).1 s.l).length+0;rw[List.length_append];split
 ·omega
 ·simp;omega
theorem Qv {s s':MS} (H:c9 s) {b slot aM:Int} (h:Ae s b slot aM s'):Gr s s' 5:=by
 have H1:=H.accepted b slot aM;have oz:=(H.lw.accepted b slot aM).2;have h0:Gr s (MN s b slot aM) 0:=⟨H1,rfl,rfl,rfl,rfl,rfl,.refl _,Nat.le_refl _⟩;unfold Ae at h;split at h
 ·rename_i hb;exact(h0.trans ((ot H1 _).trans (Ai (H1.outs _) (m7 (oz hb)) h))).le (by decide)
 ·subst h;exact h0.le (by decide)
theorem TE {s s':MS} (H:c9 s) {b slot to:Int} {m:dr} (h:Af s b slot to m s'):Gr s s' 5:=by
 unfold Af at h;split at h
 ·exact Qv H h
 ·subst h;exact(xZ H m to).le (by decide)
theorem JA {s:MS} (H:c9 s) (to:Int):Gr s (Bi s to) 1:=by
 unfold Bi;split
 ·exact⟨H.refuse _,rfl,rfl,rfl,rfl,rfl,.refl _,Nat.le_add_right _ _⟩
 ·exact xZ H _ to
theorem TF {s s':MS} (H:c9 s) {b slot to e:Int} (h:Ag s b slot to e s'):Gr s s' 5:=by
 unfold Ag at h;split at h
 ·have h1:=TE H.nB h;exact⟨h1.ok,h1.me,h1.ms,h1.l,h1.no,h1.tk,h1.kr,h1.out⟩
 split at h
 ·subst h;exact(JA H to).le (by decide)
 ·subst h;exact(Gr.refl H).le (by decide)
theorem Cy {s s':MS} (H:c9 s) {b slot al:Int} {c:cA} (hb:0≤b∧b≤18446744073709551615) (h:kf s b slot c al s'):Gr s s' 5:=by
 have h1:=TF ((H.refuse b).acc hb slot c) h;exact⟨h1.ok,h1.me,h1.ms,h1.l,h1.no,h1.tk,h1.kr,h1.out⟩
inductive m9:MS→List ak→MS→Prop
 |nil (s:MS):m9 s [] s
 |cons {s s1 s':MS} {v:ak} {vs:List ak} (h:kf (bz s (lu v)) v.ai v.slot (ao v) (bJ s) s1) (k:m9 s1 vs s'):m9 s (v::vs) s'
theorem m9.snoc {s s1 s':MS} {v:ak} {vs:List ak} (h:m9 s vs s1) (k:kf (bz s1 (lu v)) v.ai v.slot (ao v) (bJ s1) s'):m9 s (vs++[v]) s':=by
 induction h with
 |nil s=>exact .cons k (.nil _)
 |cons h _ ih=>exact .cons h (ih k)
theorem Em {s s':MS} {vs:List ak} (h:m9 s vs s'):c9 s→(∀v∈vs,0≤v.ai∧v.ai≤18446744073709551615)→Gr s s' (10*vs.length):=by
 induction h with
 |nil s=>intro H _;exact .refl H
 |cons h _ ih=>
  intro H hb;have h1:=Cy (H.outs _) (hb _ List.mem_cons_self) h;have h2:=(ot H _).trans h1;have h3:=ih h2.ok fun v hv=>hb v (List.mem_cons_of_mem _ hv);exact(h2.trans h3).le (by rw[List.length_cons];omega)
@[reducible] def fB (b:Int):Prop:=0≤b∧b≤18446744073709551615
theorem G6 (s:MS) (H:c9 s) (vs:List ak) (hb:∀v∈vs,fB v.ai) (hl:s.out.length<20000) (hv:vs.length≤600):VC E0 55 1 [c6 vs,.dc 45 [.ptr 0 0] []] (bD s) (RS (m9 s vs)):=by
 refine en L0 Tryz.f55 ?_;refine⟨fun k f o c=>∃(i:Nat) (s1:MS),i≤vs.length∧k=vs.length - i∧m9 s (vs.take i) s1∧c=1∧f=[(1,.dc 45 [.ptr 0 0] []),(6,c6 vs),(7,.s (.int .i64 (vs.map eZ).length)),(8,.s (.int .i64 i))]∧o=bD s1,⟨vs.length,?_⟩,?_⟩
 ·exact⟨[],[some 0],_,_,_,t3,⟨0,s,Nat.zero_le _,rfl,.nil s,rfl,rfl,rfl⟩⟩
 ·rintro k f1 o1 c1 ⟨i,s1,hi,rfl,hA,rfl,rfl,rfl⟩;have hG:=Em hA H fun v hv=>hb v (List.mem_of_mem_take hv);have RP:=hG.lt H;rw[List.length_take]at RP;refine wh ?_;refine sp ?_ ?_<;>intro aN
  ·have aN:i<vs.length:=dZ.1 aN;refine wh ?_;refine eT aN ?_;refine wh ?_;refine⟨[],[some 0],_,_,_,_,Jy s1 hG.ok (lu vs[i]) (hb _ (List.getElem_mem aN)) om,t3,?_⟩;rintro r o' c' ⟨s2,mJ,rfl,rfl,rfl⟩;refine wh ?_;refine⟨vs.length - (i+1),?_,om⟩;exact⟨[],[some 0],_,_,_,t3,⟨i+1,s2,aN,rfl,by rw[gV _ i aN];exact hA.snoc mJ,rfl,rfl,rfl⟩⟩
  ·have aN:¬i<vs.length:=mt dZ.2 aN;refine wh ?_;exact⟨[],[some 0],_,_,_,t3,⟨s1,by rw[List.take_of_length_le (Nat.not_lt.1 aN)]at hA;exact hA,rfl,rfl,rfl⟩⟩
end Go.M
