/-
  Part 24 of the library that the proof leans on.
-/
import Derived.Test.YthaboieeoopmjaaGreatDoorL12
import Derived.Test.YthaboieeoopmjaaGreatDoorL18
import Derived.Test.YthaboieeoopmjaaGreatDoorL17
import Derived.Test.YthaboieeoopmjaaGreatDoorL23
namespace Go.M
open Go Go.Proofs
set_option maxRecDepth 100000
set_option maxHeartbeats 4000000
@[reducible] def zc (c:CF):List TV:=[.s (.int .i64 c.chain),.s (.int .u64 c.aq),.own (.arr 1 true (c.nodes.map aW)),.s (.bool c.fresh),.s (.int .i64 c.join)]
@[reducible] def BF (c:CF) (n:Nat):List TV:=[.s (.int .i64 c.chain),.s (.int .u64 c.aq),.tk n,.s (.bool c.fresh),.s (.int .i64 c.join)]
theorem TM (c:CF) (hn:c.nodes.length<1000000):VC E0 57 0 [.agg (aJ c)] [] (RR (.agg (BF c 0)) 1 [(0,.arr 1 true (c.nodes.map aW))]):=by
 refine en L0 Tryz.f57 ?_;refine⟨[],[],_,_,_,_,ig c.nodes hn,t3,cw ?_⟩;exact⟨[],[some 2],_,_,_,t3,rfl,rfl,rfl⟩
def BG (p:Nat→Bool) (i:Nat) (c:CF):List TV:=match p i with
 |true=>zc c
 |false=>aJ c
def u6 (p:Nat→Bool) (l:List CF):List (List TV):=l.mapIdx (BG p)
def wC (p:Nat→Bool) (l:List CF) (j:Nat):List (List TV):=u6 p (l.take j)++List.replicate (l.length - j) Vh
theorem eT (p:Nat→Bool) (l:List CF):(u6 p l).length=l.length:=by simp[u6]
theorem Ge (p:Nat→Bool) (l:List CF) (j:Nat) (h:j≤l.length):(wC p l j).length=l.length:=by unfold wC;rw[List.length_append,eT];simp;omega
theorem Qf (p:Nat→Bool) (l:List CF) (j:Nat) (h:j<l.length):(wC p l j).set j (BG p j l[j])=wC p l (j+1):=by
 unfold wC;have e:l.length - j=(l.length - (j+1))+1:=by omega
 have hlen:(u6 p (l.take j)).length=j:=by rw[eT,List.length_take];omega
 rw[e,List.replicate_succ,List.set_append,if_neg om,hlen,Nat.sub_self,List.take_succ_eq_append_getElem h];unfold u6;rw[List.mapIdx_concat,List.append_assoc,List.length_take,show min j l.length=j by omega];rfl
theorem Gf (p:Nat→Bool) (l:List CF) (j:Nat) (h:j<l.length):(wC p l j)[j]? =some Vh:=by
 unfold wC;have e:l.length - j=(l.length - (j+1))+1:=by omega
 have hlen:(u6 p (l.take j)).length=j:=by rw[eT,List.length_take];omega
 rw[e,List.replicate_succ,List.getElem?_append_right om,hlen,Nat.sub_self];rfl
theorem XE (p:Nat→Bool) (l:List CF):wC p l 0=List.replicate l.length Vh:=by simp[wC,u6]
theorem Qg (p:Nat→Bool) (l:List CF):wC p l l.length=u6 p l:=by simp[wC]
theorem Gg (p:Nat→Bool) (l:List CF) (j:Nat) (h:j<l.length):(u6 p l)[j]? =some (BG p j l[j]):=by simp[u6,h]
theorem Qh (p:Nat→Bool) (l:List CF) (hl:l.length<10000) (hn:∀c∈l,c.nodes.length<1000000):VC E0 30 0 [.sl 5 (l.map aJ) false] [] (RR (.tk 0) 1 [(0,.b6 5 (u6 p l) [])]):=by
 refine en L0 Tryz.f30 ?_;refine⟨⟨om,om,by simp;omega⟩,?_⟩;refine wh ?_;refine⟨fun k f o c=>∃j:Nat,j≤l.length∧k=l.length - j∧c=1∧f=[(3,.tk 0),(9,.sl 5 (l.map aJ) false),(10,.s (.int .i64 l.length)),(11,.s (.int .i64 j))]∧o=[(0,.b6 5 (wC p l j) [])],⟨l.length,?_⟩,?_⟩
 ·refine⟨[],[some 0],?_⟩
  iterate 3 constructor
  refine⟨⟨?_,?_,?_⟩,⟨0,Nat.zero_le _,rfl,rfl,rfl,rfl⟩⟩
  all_goals(repeat' first|exact LF|constructor)
  ·exact Lz.int (by rw[List.length_map])
  ·exact Lz.of (by rw[XE];simp;exact .inr rfl)
 ·rintro k f1 o1 c1 ⟨j,hj,rfl,rfl,rfl,rfl⟩;refine wh ?_;refine sp ?_ ?_<;>intro h
  ·have h:j<l.length:=by have:(j:Int)<(l.length:Nat):=h
                         omega
   refine wh ?_;refine jg h ?_;refine wh ?_;have hs:=Qf p l j h;unfold BG at hs;cases hp:p j
   ·rw[hp]at hs;refine⟨[],[],_,_,_,_,P4 l[j] (hn _ (List.getElem_mem h)),t3,cw ?_⟩;refine⟨⟨om,by rw[Ge p l j hj];omega⟩,?_⟩;refine wh ?_;refine⟨Vh,by rw[Int.toNat_natCast];exact Gf p l j h,?_⟩;refine wh ?_;refine⟨l.length - (j+1),?_,om⟩;refine⟨[],[some 0],_,_,_,⟨tq,.cons (.b6 (lW:=[(_,aJ l[j])]) .one (Lw.of ?_) (.q1 tq)) .nil,by rfl⟩,⟨j+1,h,rfl,rfl,rfl,rfl⟩⟩;exact(by rw[←hs,Int.toNat_natCast];rfl)
   ·rw[hp]at hs;refine⟨[],[],_,_,_,_,TM l[j] (hn _ (List.getElem_mem h)),t3,cw ?_⟩;refine⟨⟨om,by rw[Ge p l j hj];omega⟩,?_⟩;refine wh ?_;refine⟨Vh,by rw[Int.toNat_natCast];exact Gf p l j h,?_⟩;refine wh ?_;refine⟨l.length - (j+1),?_,om⟩;refine⟨[],[some 0],_,_,_,⟨tq,.cons (.b6 (lW:=[(_,zc l[j])]) .one (Lw.of ?_) (.q1 tq)) .nil,by rfl⟩,⟨j+1,h,rfl,rfl,rfl,rfl⟩⟩;exact(by rw[←hs,Int.toNat_natCast];rfl)
  ·have PD:j=l.length:=by have:¬(j:Int)<(l.length:Nat):=h
                          omega
   subst PD;rw[Qg];refine wh ?_;exact⟨[],[some 0],_,_,_,t3,rfl,rfl,rfl⟩
def RY (n m:Int):Bool:=decide (m=n)
theorem isC (n m:Int):VC E0 219 1 [.s (.int .i64 m),.ptr 0 0] (G6 n) (RR (.s (.bool (RY n m))) 1 (G6 n)):=by
 refine en L0 Tryz.f219 ?_;refine sp ?_ ?_<;>intro h
 ·have h:m=n:=h;refine wh ?_;refine⟨[],[some 0],_,_,_,tx ?_,rfl,rfl,rfl⟩;exact Lz.of (an (Eq.symm (decide_eq_true h)))
 ·have h:¬m=n:=h;refine wh ?_;refine⟨[],[some 0],_,_,_,tx ?_,rfl,rfl,rfl⟩;exact Lz.of (an (Eq.symm (decide_eq_false h)))
@[reducible] def stR (n:Int) (vs:List Int):Ob:=[(0,.arr 1 true (vs.map aW)),(1,.cells [.s (.int .i64 n)])]
theorem TN (n:Int) (vs:List Int) (hl:vs.length<1000000):VC E0 239 2 [.tk 0,.cW 219 [] [.ptr 1 0]] (stR n vs)
 (fun r o c=>∃i:Int,r= .s (.int .i64 i)∧c=2∧o=stR n vs∧((i= -1∧∀v∈vs,RY n v=false)∨∃j:Nat,∃h:j<vs.length,i=j∧(∀v∈vs.take j,RY n v=false)∧RY n vs[j]=true)):=by
 refine en L0 Tryz.f239 ?_;refine⟨fun k f o c=>∃j:Nat,j≤vs.length∧k=vs.length - j∧(∀v∈vs.take j,RY n v=false)∧c=2∧f=[(0,.tk 0),(1,.cW 219 [] [.ptr 1 0]),(7,.s (.int .i64 vs.length)),(8,.s (.int .i64 j))]∧o=stR n vs,⟨vs.length,?_⟩,?_⟩
 ·refine⟨[],[some 0,some 1],?_⟩
  iterate 3 constructor
  refine⟨⟨?_,?_,?_⟩,⟨0,Nat.zero_le _,rfl,by simp,rfl,rfl,rfl⟩⟩
  all_goals(repeat' first|exact LF|constructor)
  all_goals exact Lz.of (by simp[goInt])
 ·rintro k f1 o1 c1 ⟨j,hj,rfl,hb,rfl,rfl,rfl⟩;refine wh ?_;refine sp ?_ ?_<;>intro h
  ·have h:j<vs.length:=by simpa using h
   refine wh ?_;refine⟨⟨om,by simp;omega⟩,aW vs[j],by simp[h],?_⟩;refine wh ?_;refine⟨[],[some 1],_,_,_,_,isC n vs[j],t3,?_⟩;rintro r o' c' ⟨rfl,rfl,rfl⟩;have bj:=True.intro;clear bj;cases hv:RY n vs[j]
   ·refine wh ?_;refine⟨vs.length - (j+1),?_,om⟩;exact⟨[],[some 0,some 1],_,_,_,t3,⟨j+1,h,rfl,by intro v oH;rw[List.take_succ_eq_append_getElem h]at oH;rcases List.mem_append.1 oH with h1|h1;exact hb v h1;simp at h1;subst h1;exact hv,rfl,rfl,rfl⟩⟩
   ·refine wh ?_;exact⟨[],[some 0,some 1],_,_,_,t3,(j:Int),rfl,rfl,rfl,.inr ⟨j,h,rfl,hb,hv⟩⟩
  ·have h':j=vs.length:=by have:¬j<vs.length:=by simpa using h
                           omega
   subst h';rw[List.take_length]at hb;refine wh ?_;exact⟨[],[some 0,some 1],_,_,_,t3,-1,rfl,rfl,rfl,.inl ⟨rfl,hb⟩⟩
theorem vV {n:Int} {vs:List Int} (h:∀v∈vs,RY n v=false):b5 vs n=vs:=by
 unfold b5;rw[List.filter_eq_self];intro v hv;have:=of_decide_eq_false (h v hv);simpa using this
theorem vW (n:Int) (vs:List Int) (j:Nat) (h:j<vs.length) (hb:RY n vs[j]=true):b5 (vs.take (j+1)) n=b5 (vs.take j) n:=by
 rw[qZ _ _ _ h,if_pos (of_decide_eq_true hb),List.append_nil]
theorem DG (n:Int) (vs:List Int) (j:Nat) (h:j<vs.length) (hb:RY n vs[j]=false):b5 (vs.take (j+1)) n=b5 (vs.take j) n++[vs[j]]:=by
 rw[qZ _ _ _ h,if_neg (of_decide_eq_false hb)]
theorem DH (n:Int) (vs:List Int) (hl:vs.length<1000000):VC E0 218 2 [.tk 0,.cW 219 [] [.ptr 1 0]] (stR n vs)
 (RR (.sl 1 ((b5 vs n).map aW) false) 2 [(1,.cells [.s (.int .i64 n)])]):=by
 refine en L0 Tryz.f218 ?_;refine⟨[],[some 0,some 1],_,_,_,_,TN n vs hl,t3,?_⟩;rintro r o' c' ⟨i0,rfl,rfl,rfl,UW⟩;refine wh ?_;refine sp ?_ ?_<;>intro hm
 ·have hm:i0= -1:=hm;rcases UW with⟨_,gJ⟩|⟨j,h,e,_,_⟩
  ·refine wh ?_;refine⟨[0],[some 0,some 1],?_⟩
   iterate 3 constructor
   refine⟨⟨?_,?_,?_⟩,rfl,rfl,rfl⟩
   all_goals(repeat' first|exact LF|constructor)
   rw[vV gJ];exact Lz.rfl
  ·omega
 ·have hm:¬i0= -1:=hm;rcases UW with⟨e,_⟩|⟨j0,h0,rfl,vh,Wt⟩
  ·exact absurd e hm
  refine wh ?_;refine⟨fun k f o c=>∃(i j:Nat) (ws:List Int),i<j∧j≤vs.length∧k=vs.length - j∧ws.length=vs.length∧ws.take i=b5 (vs.take j) n∧ws.drop j=vs.drop j∧c=2∧f=[(0,.tk 0),(1,.cW 219 [] [.ptr 1 0]),(5,.s (.int .i64 i)),(6,.s (.int .i64 j))]∧o=stR n ws,⟨vs.length - (j0+1),?_⟩,?_⟩
  ·exact⟨[],[some 0,some 1],_,_,_,t3,⟨j0,j0+1,vs,om,h0,rfl,rfl,(by rw[vW _ _ _ h0 Wt];exact(vV vh).symm),rfl,rfl,rfl,rfl⟩⟩
  ·rintro k f1 o1 c1 ⟨i,j,ws,Zs,hj,rfl,hlen,tY,hdr,rfl,rfl,rfl⟩;refine wh ?_;refine sp ?_ ?_<;>intro h
   ·have h:j<vs.length:=by rw[List.length_map,hlen]at h;omega
    have hw:ws[j]? =some vs[j]:=by
     have:=congrArg (fun l=>l[0]?) hdr;simpa[h]using this
    have PJ:ws.drop (j+1)=vs.drop (j+1):=by
     have:=congrArg (List.drop 1) hdr;simpa[List.drop_drop,Nat.add_comm]using this
    refine wh ?_;refine⟨⟨om,by simp;omega⟩,aW vs[j],by simp[hw],?_⟩;refine wh ?_;refine⟨[],[some 1],_,_,_,_,isC n vs[j],t3,?_⟩;rintro r o' c' ⟨rfl,rfl,rfl⟩;have bj:=True.intro;clear bj;cases hv:RY n vs[j]
    ·refine wh ?_;refine⟨⟨om,by simp;omega⟩,aW (ws[i]' om),by simp[show i<ws.length by omega],?_⟩;refine wh ?_;refine⟨vs.length - (j+1),?_,om⟩;refine⟨[],[some 0,some 1],?_⟩
     iterate 3 constructor
     refine⟨⟨?_,?_,?_⟩,⟨i+1,j+1,ws.set i vs[j],om,h,rfl,by simpa using hlen,(by rw[DG _ _ _ h hv,List.take_succ_eq_append_getElem (by simp;omega),List.take_set_of_le (Nat.le_refl _),tY];simp),(by rw[List.drop_set_of_lt om];exact PJ),rfl,rfl,rfl⟩⟩
     all_goals(repeat' first|exact LF|constructor)
     refine Lz.of ?_;rw[List.map_set];rfl
    ·refine wh ?_;refine⟨vs.length - (j+1),?_,om⟩;exact⟨[],[some 0,some 1],_,_,_,t3,⟨i,j+1,ws,om,h,rfl,hlen,(by rw[vW _ _ _ h hv];exact tY),PJ,rfl,rfl,rfl⟩⟩
   ·have h':j=vs.length:=by have:¬(j:Int)<(((ws.map aW).length:Nat):Int):=h
                            rw[List.length_map,hlen]at this;omega
    subst h';rw[List.take_length]at tY;refine wh ?_;refine⟨⟨om,by simp;try omega,by simp⟩,.inr ?_⟩;refine wh ?_;refine⟨fun hc=>absurd hc (by simp;omega),fun _=>?_⟩;refine wh ?_;refine⟨⟨om,by simp;try omega,by simp;try omega⟩,.inl ?_⟩;refine wh ?_;refine⟨[],[some 0,some 1],?_⟩
    iterate 3 constructor
    refine⟨⟨?_,?_,?_⟩,rfl,rfl,rfl⟩
    all_goals(repeat' first|exact LF|constructor)
    refine Lz.of ?_;rw[←tY];simp[show i≤ws.length by omega]
theorem aa9 {l:List Int} {K:List TV→Prop} (h:1≤l.length∧l.length≤5) (hK:K (aW (l.getLast?.getD 0))):(0≤IntKind.i64.wrap ((((l.map aW).length:Nat):Int) - 1)∧IntKind.i64.wrap ((((l.map aW).length:Nat):Int) - 1)<(((l.map aW).length:Nat):Int))∧∃e,(l.map aW)[(IntKind.i64.wrap ((((l.map aW).length:Nat):Int) - 1)).toNat]? =some e∧K e:=by
 obtain⟨e,⟨h0,h1⟩,h2⟩:=Ve h hK;refine⟨⟨h0,?_⟩,e,h1,h2⟩;have:=(List.getElem?_eq_some_iff.1 h1).1;omega
theorem Qi (c:CF) (h5:1≤c.nodes.length∧c.nodes.length≤5):VC E0 217 1 [.agg (BF c 0)] [(0,.arr 1 true (c.nodes.map aW))] (RR (.s (.int .i64 (ij c))) 1 [(0,.arr 1 true (c.nodes.map aW))]):=by
 refine en L0 Tryz.f217 ?_;refine aa9 h5 ?_;refine wh ?_;exact⟨[],[some 0],_,_,_,t3,rfl,rfl,rfl⟩
@[reducible] def stM (c:CF):Ob:=[(0,.arr 1 true (c.nodes.map aW))]
def mM (x:CF) (k n:Int):CF:=
 if k=1 then(if x.join=n then⟨x.chain,x.aq,x.nodes,x.fresh,0⟩else⟨x.chain,x.aq,b5 x.nodes n,x.fresh&&decide (ij x≠n),x.join⟩)
 else if k=2 then⟨x.chain,x.aq,x.nodes,x.fresh,n⟩
 else if k=3 then⟨x.chain,x.aq,x.nodes++[n],true,0⟩
 else⟨x.chain,x.aq,x.nodes,false,x.join⟩
theorem Qj (x:CF) (k n:Int):kg x k n=⟨(mM x k n).chain,(mM x k n).aq+1,(mM x k n).nodes,(mM x k n).fresh,(mM x k n).join⟩:=by
 unfold kg mM
 repeat' split
 all_goals rfl
theorem Mq (x:CF) (n:Int) (h5:1≤x.nodes.length∧x.nodes.length≤5):VC E0 181 1 [.agg (BF x 0),.s (.int .i64 n)] (stM x) (RR (.agg (aJ (mM x 1 n))) 1 []):=by
 refine en L0 Tryz.f181 ?_;refine sp ?_ ?_<;>intro hj
 ·have hj:x.join=n:=hj;have hC:mM x 1 n=⟨x.chain,x.aq,x.nodes,x.fresh,0⟩:=by unfold mM;rw[if_pos rfl,if_pos hj]
  rw[hC];refine wh ?_;exact⟨[0],[some 0],_,_,_,t3,rfl,rfl,rfl⟩
 ·have hj:¬x.join=n:=hj;have hC:mM x 1 n=⟨x.chain,x.aq,b5 x.nodes n,x.fresh&&decide (ij x≠n),x.join⟩:=by unfold mM;rw[if_pos rfl,if_neg hj]
  rw[hC];refine wh ?_;cases hf:x.fresh
  ·refine wh ?_;refine⟨[],[some 0,some 2],_,_,_,_,DH n x.nodes om,t3,?_⟩;rintro r o' c' ⟨rfl,rfl,rfl⟩;refine wh ?_;exact⟨[],[some 0],_,_,_,t3,rfl,rfl,rfl⟩
  ·refine wh ?_;refine⟨[],[some 0],_,_,_,_,Qi ⟨x.chain,x.aq,x.nodes,true,x.join⟩ h5,t3,?_⟩;rintro r o' c' ⟨rfl,rfl,rfl⟩;refine wh ?_;have hll:ij ⟨x.chain,x.aq,x.nodes,true,x.join⟩=ij x:=rfl;refine sp ?_ ?_<;>intro HW
   ·have HW:ij x≠n:=HW;refine wh ?_;refine⟨[],[some 0,some 2],_,_,_,_,DH n x.nodes om,t3,?_⟩;rintro r o' c' ⟨rfl,rfl,rfl⟩;refine wh ?_;refine⟨[],[some 0],_,_,_,tx ?_,rfl,rfl,rfl⟩;exact Lz.of (an (by simp[HW]))
   ·have HW:¬ij x≠n:=HW;refine wh ?_;refine⟨[],[some 0,some 2],_,_,_,_,DH n x.nodes om,t3,?_⟩;rintro r o' c' ⟨rfl,rfl,rfl⟩;refine wh ?_;refine⟨[],[some 0],_,_,_,tx ?_,rfl,rfl,rfl⟩;exact Lz.of (an (by simpa using HW))
theorem TP (x:CF) (n:Int):VC E0 183 1 [.agg (BF x 0),.s (.int .i64 n)] (stM x) (RR (.agg (aJ (mM x 2 n))) 1 []):=by
 refine en L0 Tryz.f183 ?_;exact⟨[0],[some 0],_,_,_,t3,rfl,rfl,rfl⟩
theorem IV (x:CF) (n:Int) (h5:x.nodes.length≤5):VC E0 185 1 [.agg (BF x 0),.s (.int .i64 n)] (stM x) (RR (.agg (aJ (mM x 3 n))) 1 []):=by
 have hC:mM x 3 n=⟨x.chain,x.aq,x.nodes++[n],true,0⟩:=by unfold mM;rw[if_neg (by decide),if_neg (by decide),if_pos rfl]
 rw[hC];refine en L0 Tryz.f185 ?_;refine⟨by simp;omega,?_⟩;refine wh ?_;refine⟨[4],[some 0],_,_,_,tx ?_,rfl,rfl,rfl⟩;exact Lz.of (by simp)
theorem Mr (x:CF) (k n:Int) (k1:k≠1) (k2:k≠2) (k3:k≠3):VC E0 187 1 [.agg (BF x 0),.s (.int .i64 n)] (stM x) (RR (.agg (aJ (mM x k n))) 1 []):=by
 have hC:mM x k n=⟨x.chain,x.aq,x.nodes,false,x.join⟩:=by unfold mM;rw[if_neg k1,if_neg k2,if_neg k3]
 rw[hC];refine en L0 Tryz.f187 ?_;exact⟨[0],[some 0],_,_,_,t3,rfl,rfl,rfl⟩
theorem aba (k:Int) (h:k=1):VC E0 132 0 [.s (.int .i64 k)] [] (RR (.agg [.cW 180 [] [],.cW 181 [] []]) 0 []):=by subst h;exact PY
theorem abb (k:Int) (h:k=2):VC E0 132 0 [.s (.int .i64 k)] [] (RR (.agg [.cW 182 [] [],.cW 183 [] []]) 0 []):=by subst h;exact PZ
theorem abc (k:Int) (h:k=3):VC E0 132 0 [.s (.int .i64 k)] [] (RR (.agg [.cW 184 [] [],.cW 185 [] []]) 0 []):=by subst h;exact P0
theorem tM (l:List CF) (i:Nat) (h:i<l.length) (x:CF):(u6 (fun j=>Nat.beq j i) l).set i (aJ x)=(l.set i x).map aJ:=by
 apply List.ext_getElem?;intro j;rw[List.getElem?_set,List.getElem?_map,List.getElem?_set];by_cases e:i=j
 ·subst e;simp[eT,h]
 ·rw[if_neg e,if_neg e];by_cases hj:j<l.length
  ·rw[Gg _ _ _ hj,List.getElem?_eq_getElem hj];have hb:Nat.beq j i=false:=by
    cases hq:Nat.beq j i with
    |false=>rfl
    |true=>rw[beq_iff]at hq;omega
   unfold BG;simp only[hb];rfl
  ·rw[List.getElem?_eq_none (by rw[eT];omega),List.getElem?_eq_none om];rfl
theorem wY (l:List CF) (i:Nat) (h:i<l.length):(u6 (fun j=>Nat.beq j i) l)[i]? =some (zc l[i]):=by
 rw[Gg _ _ _ h];unfold BG;simp only[beq_iff.2 (rfl:i=i)]
theorem tN (l:List CF):∀e∈l.map aJ,∀t∈e,fz t=true:=by
 intro e he t ht;obtain⟨x,_,rfl⟩:=List.mem_map.1 he;simp only[aJ,List.mem_cons,List.not_mem_nil,or_false]at ht;rcases ht with rfl |rfl |rfl |rfl |rfl<;>rfl
theorem XF (x:CF) (k n:Int):(mM x k n).aq=x.aq:=by
 unfold mM
 repeat' split
 all_goals rfl
theorem XG (l:List CF) (c:b8) (hl:l.length<10000) (hn:∀c∈l,c.nodes.length<1000000) (hep:∀c∈l,0≤c.aq∧c.aq≤18446744073709551615):
 VC E0 179 0 [.sl 5 (l.map aJ) false,Kh c] [] (RR (.c4 [.tk 0,.s (.bool (kH l c).2)]) 1 [(0,.arr 5 true ((kH l c).1.map aJ))]):=by
 by_cases h:iI l c=0
 ·by_cases h0:c.kind=0
  ·have hC:kH l c=(l,true):=by unfold kH;rw[if_neg (fun q=>q h),if_pos h0]
   rw[hC];refine en L0 Tryz.f179 ?_;refine⟨[],[],_,_,_,_,tK l hl hn,t3,cw ?_⟩;refine⟨[],[],_,_,_,_,DA l c,t3,cw ?_⟩;refine sp ?_ ?_<;>intro q
   ·exact absurd h q
   refine wh ?_;refine sp ?_ ?_<;>intro q2
   ·exact absurd h0 q2
   refine wh ?_;exact⟨[],[some 1],_,_,_,t3,rfl,rfl,rfl⟩
  ·obtain⟨ha,hk,aU,hm⟩:=DB h h0;have mw:=np hk h0;have ND:=hep _ (List.getElem_mem aU);have hrx:=kB ha (List.getElem_mem aU);have h5:=hrx.2.2.1;have hC:kH l c=(l.set c.chain.toNat (kg l[c.chain.toNat] c.kind c.node),true):=by unfold kH;rw[if_neg (fun q=>q h),if_neg h0,List.getElem?_eq_getElem aU]
   have hw:IntKind.u64.wrap ((mM l[c.chain.toNat] c.kind c.node).aq+1)=(mM l[c.chain.toNat] c.kind c.node).aq+1:=by rw[XF];exact IntWalk.u64_in _ om
   rw[hC,Qj];refine en L0 Tryz.f179 ?_;refine⟨[],[],_,_,_,_,Qh (fun j=>Nat.beq j c.chain.toNat) l hl hn,t3,cw ?_⟩;refine⟨[],[],_,_,_,_,DA l c,t3,cw ?_⟩;refine sp ?_ ?_<;>intro q
   ·exact absurd h q
   refine wh ?_;refine sp ?_ ?_<;>intro q2
   ·refine wh ?_;by_cases k1:c.kind=1
    ·refine⟨[],[],_,_,_,_,aba c.kind k1,t3,?_⟩;have RZ:=Mq l[c.chain.toNat] c.node h5;rw[←k1]at RZ;rintro r o' c' ⟨rfl,rfl,rfl⟩;refine wh ?_;refine⟨⟨mw.1,by rw[eT];omega⟩,?_⟩;refine wh ?_;refine⟨zc l[c.chain.toNat],wY l _ aU,?_⟩;refine wh ?_;refine⟨[],[some 2],_,_,_,_,RZ,t3,cw ?_⟩;refine⟨⟨mw.1,by rw[eT];omega⟩,?_⟩;refine wh ?_;refine⟨fun _=>?_,fun q=>absurd rfl q⟩;refine wh ?_
     refine⟨[],[some 1],_,_,_,⟨tq,.cons (.Ah (lW:=[(_,aJ ⟨(mM l[c.chain.toNat] c.kind c.node).chain,(mM l[c.chain.toNat] c.kind c.node).aq+1,(mM l[c.chain.toNat] c.kind c.node).nodes,(mM l[c.chain.toNat] c.kind c.node).fresh,(mM l[c.chain.toNat] c.kind c.node).join⟩)]) .one (Lw.of (tM l c.chain.toNat aU _)) (tN _) (.q1 (by(repeat' first|exact LF|constructor);exact Lz.int hw))) .nil,by rfl⟩,rfl,rfl,rfl⟩
    by_cases k2:c.kind=2
    ·refine⟨[],[],_,_,_,_,abb c.kind k2,t3,?_⟩;have RZ:=TP l[c.chain.toNat] c.node;rw[←k2]at RZ;rintro r o' c' ⟨rfl,rfl,rfl⟩;refine wh ?_;refine⟨⟨mw.1,by rw[eT];omega⟩,?_⟩;refine wh ?_;refine⟨zc l[c.chain.toNat],wY l _ aU,?_⟩;refine wh ?_;refine⟨[],[some 2],_,_,_,_,RZ,t3,cw ?_⟩;refine⟨⟨mw.1,by rw[eT];omega⟩,?_⟩;refine wh ?_;refine⟨fun _=>?_,fun q=>absurd rfl q⟩;refine wh ?_
     refine⟨[],[some 1],_,_,_,⟨tq,.cons (.Ah (lW:=[(_,aJ ⟨(mM l[c.chain.toNat] c.kind c.node).chain,(mM l[c.chain.toNat] c.kind c.node).aq+1,(mM l[c.chain.toNat] c.kind c.node).nodes,(mM l[c.chain.toNat] c.kind c.node).fresh,(mM l[c.chain.toNat] c.kind c.node).join⟩)]) .one (Lw.of (tM l c.chain.toNat aU _)) (tN _) (.q1 (by(repeat' first|exact LF|constructor);exact Lz.int hw))) .nil,by rfl⟩,rfl,rfl,rfl⟩
    by_cases k3:c.kind=3
    ·refine⟨[],[],_,_,_,_,abc c.kind k3,t3,?_⟩;have RZ:=IV l[c.chain.toNat] c.node h5.2;rw[←k3]at RZ;rintro r o' c' ⟨rfl,rfl,rfl⟩;refine wh ?_;refine⟨⟨mw.1,by rw[eT];omega⟩,?_⟩;refine wh ?_;refine⟨zc l[c.chain.toNat],wY l _ aU,?_⟩;refine wh ?_;refine⟨[],[some 2],_,_,_,_,RZ,t3,cw ?_⟩;refine⟨⟨mw.1,by rw[eT];omega⟩,?_⟩;refine wh ?_;refine⟨fun _=>?_,fun q=>absurd rfl q⟩;refine wh ?_
     refine⟨[],[some 1],_,_,_,⟨tq,.cons (.Ah (lW:=[(_,aJ ⟨(mM l[c.chain.toNat] c.kind c.node).chain,(mM l[c.chain.toNat] c.kind c.node).aq+1,(mM l[c.chain.toNat] c.kind c.node).nodes,(mM l[c.chain.toNat] c.kind c.node).fresh,(mM l[c.chain.toNat] c.kind c.node).join⟩)]) .one (Lw.of (tM l c.chain.toNat aU _)) (tN _) (.q1 (by(repeat' first|exact LF|constructor);exact Lz.int hw))) .nil,by rfl⟩,rfl,rfl,rfl⟩
    ·refine⟨[],[],_,_,_,_,P1 c.kind k1 k2 k3,t3,?_⟩;have RZ:=Mr l[c.chain.toNat] c.kind c.node k1 k2 k3;rintro r o' c' ⟨rfl,rfl,rfl⟩;refine wh ?_;refine⟨⟨mw.1,by rw[eT];omega⟩,?_⟩;refine wh ?_;refine⟨zc l[c.chain.toNat],wY l _ aU,?_⟩;refine wh ?_;refine⟨[],[some 2],_,_,_,_,RZ,t3,cw ?_⟩;refine⟨⟨mw.1,by rw[eT];omega⟩,?_⟩;refine wh ?_;refine⟨fun _=>?_,fun q=>absurd rfl q⟩;refine wh ?_
     refine⟨[],[some 1],_,_,_,⟨tq,.cons (.Ah (lW:=[(_,aJ ⟨(mM l[c.chain.toNat] c.kind c.node).chain,(mM l[c.chain.toNat] c.kind c.node).aq+1,(mM l[c.chain.toNat] c.kind c.node).nodes,(mM l[c.chain.toNat] c.kind c.node).fresh,(mM l[c.chain.toNat] c.kind c.node).join⟩)]) .one (Lw.of (tM l c.chain.toNat aU _)) (tN _) (.q1 (by(repeat' first|exact LF|constructor);exact Lz.int hw))) .nil,by rfl⟩,rfl,rfl,rfl⟩
   ·exact absurd h0 (fun q=>q2 q)
 ·have hC:kH l c=(l,false):=by unfold kH;rw[if_pos h]
  rw[hC];refine en L0 Tryz.f179 ?_;refine⟨[],[],_,_,_,_,tK l hl hn,t3,cw ?_⟩;refine⟨[],[],_,_,_,_,DA l c,t3,cw ?_⟩;refine sp ?_ ?_<;>intro q
  ·refine wh ?_;exact⟨[],[some 1],_,_,_,t3,rfl,rfl,rfl⟩
  ·exact absurd (Classical.not_not.1 q) h
theorem TQ {K:List ai} (h:SS K) (v:ai) (s:Int):tF (put K v) s=if s=v.slot then some v else tF K s:=by
 have hp:SS (put K v):=yR h;split
 ·rename_i e;subst e;exact(gP hp).2 ⟨(gp h).2 (.inl rfl),rfl⟩
 ·rename_i e;cases ha:tF K s with
  |none=>
   cases hb:tF (put K v) s with
   |none=>rfl
   |some w=>
    obtain⟨h1,h2⟩:=(gP hp).1 hb;rcases(gp h).1 h1 with rfl |⟨_,h3⟩
    ·exact absurd h2.symm e
    ·have:=(gP h).2 ⟨h3,h2⟩;rw[ha]at this;cases this
  |some w=>
   obtain⟨h1,h2⟩:=(gP h).1 ha;exact(gP hp).2 ⟨(gp h).2 (.inr ⟨by rw[h2];exact e,h1⟩),h2⟩
theorem Qk:∀{l:List ai} {a b:Int},SS l→(∀v∈l,a≤v.slot∧v.slot<b)→(l.length:Int)≤max (b - a) 0
 |[],a,b,_,_=>by simp;omega
 |x::l,a,b,h,hr=>by
  obtain⟨h1,h2⟩:=List.pairwise_cons.1 h;have hx:=hr x List.mem_cons_self;have:=Qk (a:=a+1) (b:=b) h2 (fun v hv=>by
   have:=h1 v hv;have:=hr v (List.mem_cons_of_mem _ hv);omega)
  rw[List.length_cons];omega
theorem Av.put {K:List ai} (h:Av K) {slot:Int} {c:b8} (hs:0≤slot∧slot<512) (hc:0≤c.aq):Av (put K (.of slot 0 c)):=by
 have hS:SS (M.put K (.of slot 0 c)):=yR h.ss;have hr:∀v∈M.put K (.of slot 0 c),0≤v.slot∧v.slot<512:=fun v hv=>by
  rcases(gp h.ss).1 hv with rfl |⟨_,q⟩
  ·exact hs
  ·exact h.pI v q
 refine⟨hS,hr,?_,fun v hv=>?_⟩
 ·have:=Qk hS hr;omega
 ·rcases(gp h.ss).1 hv with rfl |⟨_,q⟩
  ·exact hc
  ·exact h.ep v q
theorem Ql:∀(l:List ai) (n:Nat),SS l→(∀x∈l,(n:Int)≤x.slot)→(∀i:Nat,n+i<nf n l→∃v,l[i]? =some v∧v.slot=((n+i:Nat):Int))∧∀x∈l,x.slot≠((nf n l:Nat):Int)
 |[],n,_,_=>⟨fun i h=>by simp only[nf]at h;omega,by simp⟩
 |x::l,n,hS,xF=>by
  obtain⟨Xa,Nn⟩:=List.pairwise_cons.1 hS;by_cases hx:x.slot=(n:Int)
  ·have ih:=Ql l (n+1) Nn (fun y hy=>by have:=Xa y hy;omega);have e:nf n (x::l)=nf (n+1) l:=by rw[nf,if_pos hx]
   have hg:=Ko l (n+1);rw[e];refine⟨fun i hi=>?_,fun y hy=>?_⟩
   ·cases i with
    |zero=>exact⟨x,rfl,by simpa using hx⟩
    |succ i=>
     obtain⟨v,h1,h2⟩:=ih.1 i om;exact⟨v,by simpa using h1,by rw[h2];congr 1;omega⟩
   ·rcases List.mem_cons.1 hy with rfl |hy
    ·omega
    ·exact ih.2 y hy
  ·have e:nf n (x::l)=n:=by rw[nf,if_neg hx]
   rw[e];refine⟨fun i hi=>by omega,fun y hy=>?_⟩;have h0:=xF x List.mem_cons_self;rcases List.mem_cons.1 hy with rfl |hy
   ·exact hx
   ·have:=Xa y hy;omega
theorem TR {K:List ai} (h:Av K) {n:Nat} (hn:n<aD K):∃v,K[n]? =some v∧tF K (n:Int)=some v:=by
 rw[lx]at hn;obtain⟨v,h1,h2⟩:=(Ql K 0 h.ss (fun x hx=>by simpa using(h.pI x hx).1)).1 n om;exact⟨v,h1,(gP h.ss).2 ⟨List.mem_of_getElem? h1,by rw[h2];congr 1;omega⟩⟩
theorem Ms {K:List ai} (h:Av K):tF K ((aD K:Nat):Int)=none:=by
 have:=(Ql K 0 h.ss (fun x hx=>by simpa using(h.pI x hx).1)).2;rw[←lx]at this;cases hq:tF K ((aD K:Nat):Int)with
 |none=>rfl
 |some v=>
  obtain⟨h1,h2⟩:=(gP h.ss).1 hq;exact absurd h2 (this v h1)
theorem zd:∀{K:List ai},SS K→K≠[]→(∀x∈K,x.slot+1≤pN K)∧∃x∈K,x.slot+1=pN K
 |[],_,h=>absurd rfl h
 |[x],_,_=>by simp[pN]
 |x::y::l,h,_=>by
  have e:pN (x::y::l)=pN (y::l):=by unfold pN;rw[List.getLast?_cons_cons]
  obtain⟨h1,h2⟩:=List.pairwise_cons.1 h;obtain⟨a,z,hz,hze⟩:=zd h2 (by simp);rw[e];refine⟨fun w hw=>?_,z,List.mem_cons_of_mem _ hz,hze⟩;rcases List.mem_cons.1 hw with rfl |hw
  ·have:=h1 z hz;omega
  ·exact a w hw
theorem Qm {K:List ai} (h:SS K) (v:ai) (h0:0≤v.slot):pN (put K v)=max (pN K) (v.slot+1):=by
 have hp:SS (put K v):=yR h;have hv:v∈put K v:=(gp h).2 (.inl rfl);obtain⟨a,x,hx,LG⟩:=zd hp (fun e=>by rw[e]at hv;cases hv);have hvt:=a v hv;cases hK:K with
 |nil=>simp[put,pN];omega
 |cons y l=>
  rw[←hK];obtain⟨b,y,hy,hye⟩:=zd h (by rw[hK];simp);have hyt:y.slot+1≤pN (put K v):=by
   by_cases e:y.slot=v.slot
   ·omega
   ·exact a y ((gp h).2 (.inr ⟨e,hy⟩))
  rcases(gp h).1 hx with rfl |⟨_,q⟩
  ·omega
  ·have:=b x q;omega
theorem XH {l:List CF} {c:b8} (h:(kH l c).2=false):(kH l c).1=l:=by
 unfold kH at h ⊢;by_cases hc:iI l c≠0
 ·rw[if_pos hc]
 ·rw[if_neg hc]at h;by_cases hk:c.kind=0
  ·rw[if_pos hk]at h;cases h
  ·rw[if_neg hk]at h;split at h<;>cases h
theorem abd {l:List CF} {c:b8} (hk:c.kind=0):(kH l c).1=l:=by
 unfold kH;by_cases hc:iI l c≠0
 ·rw[if_pos hc]
 ·rw[if_neg hc,if_pos hk]
theorem BH {K:List ai} {l:List CF} {n:Nat} {v:ai} (hv:K[n]? =some v) (h:(kH (a8 K l n).2 (aA v)).2=false∨v.kind=0):a8 K l (n+1)=a8 K l n:=by
 have e:(kH (a8 K l n).2 (aA v)).1=(a8 K l n).2:=by
  rcases h with h|h
  ·exact XH h
  ·exact abd h
 rw[a8,hv];dsimp only
 rw[if_neg (by rcases h with h|h<;>simp[h]),e]
theorem Mt {K:List ai} {l:List CF} {n:Nat} {v:ai} (hv:K[n]? =some v) (h:(kH (a8 K l n).2 (aA v)).2=true) (hk:v.kind≠0) (aU:v.chain.toNat<(kH (a8 K l n).2 (aA v)).1.length):
 a8 K l (n+1)=((a8 K l n).1++[(kH (a8 K l n).2 (aA v)).1[v.chain.toNat]],(kH (a8 K l n).2 (aA v)).1):=by
 rw[a8,hv];dsimp only
 rw[if_pos ⟨h,hk⟩,List.getElem?_eq_getElem aU];rfl
theorem oj {K:List ai} (h:Av K) {l:List CF} {slot:Int} {c:b8} (hs:0≤slot) (ho:other K slot c=false):aD K≤aD (put K (.of slot 0 c))∧a8 (put K (.of slot 0 c)) l (aD K)=a8 K l (aD K):=by
 have hp:=IT (.of slot 0 c) K 0 h.ss (fun v hv=>(h.pI v hv).1) hs (fun v hv e=>by
  have D3:tF K slot=some v:=(gP h.ss).2 ⟨hv,e⟩;unfold other at ho;rw[D3]at ho;have:kf (aA v) c=true:=by simpa using ho
  exact u4.1 this)
 rw[←lx,←lx]at hp;exact⟨hp.1,(sg (K':=put K (.of slot 0 c)) (fun i hi=>hp.2 i om)).symm⟩
theorem Gi (x:CF) (k n:Int):(kg x k n).aq=x.aq+1∧(kg x k n).chain=x.chain:=by
 unfold kg
 repeat' split
 all_goals exact⟨rfl,rfl⟩
structure okW (K:List ai):Prop where
 ok:Av K
 of:∀v∈K,v= .of v.slot 0 (aA v)
 ck:∀v∈K,(aA v).check=0
theorem okW.nil:okW []:=⟨⟨.nil,by simp,by simp,by simp⟩,by simp,by simp⟩
theorem okW.put {K:List ai} (h:okW K) {slot:Int} {c:b8} (hs:0≤slot∧slot<512) (hc:0≤c.aq) (hk:c.check=0):okW (put K (.of slot 0 c)):=by
 refine⟨h.ok.put hs hc,fun v hv=>?_,fun v hv=>?_⟩
 ·rcases(gp h.ok.ss).1 hv with rfl |⟨_,q⟩
  ·rfl
  ·exact h.of v q
 ·rcases(gp h.ok.ss).1 hv with rfl |⟨_,q⟩
  ·exact hk
  ·exact h.ck v q
theorem okW.take {K:List ai} (h:okW K) (i:Nat):okW (K.take i):=
 ⟨⟨h.ok.ss.sublist (List.take_sublist i K),fun v hv=>h.ok.pI v (List.mem_of_mem_take hv),by have:=h.ok.len;rw[List.length_take];omega,fun v hv=>h.ok.ep v (List.mem_of_mem_take hv)⟩,fun v hv=>h.of v (List.mem_of_mem_take hv),fun v hv=>h.ck v (List.mem_of_mem_take hv)⟩
instance (c:CF):Decidable (jh c):=by unfold jh;exact inferInstance
instance (l:List CF):Decidable (y7 l):=by unfold y7;exact inferInstance
instance (l:List CF):Decidable (kA l):=by unfold kA;exact inferInstance
theorem Mu:∀ch<5,∀eC<6,1≤ch→1≤eC→kA (ly eC ch):=by decide+kernel
theorem Mv {eC ch:Nat} (h:ch≤4) (h2:eC≤5):Km (ly eC ch):=by
 refine⟨by simp[ly];omega,fun c hc=>?_,fun c hc=>?_⟩
 ·obtain⟨i,_,rfl⟩:=List.mem_map.1 hc;exact⟨by show(0:Int)≤1;omega,by show(1:Int)≤_;omega⟩
 ·obtain⟨i,_,rfl⟩:=List.mem_map.1 hc;show(pO (i*eC) eC).length≤6;simp[pO];omega
theorem Qn (l:List CF) (hl:l.length<10000) (hn:∀c∈l,c.nodes.length<1000000):VC E0 30 0 [.sl 5 (l.map aJ) false] [] (RR (.tk 0) 1 [(0,.arr 5 true (l.map aJ))]):=tK l hl hn
@[reducible] noncomputable def Vj (kn:List (Int×b8)) (top:Int) (K:List ai) (l:List CF) (n:Nat):oN:=⟨kn,n,top,(a8 K l n).1.length,(a8 K l n).2⟩
noncomputable def Mw (K:List ai) (l:List CF) (n0:Nat):List CF:=(a8 K l (aD K)).1.drop (a8 K l n0).1.length
theorem wZ {K:List ai} {l:List CF} (hl:Km l):∀n,∀c∈(a8 K l n).1,c.nodes.length≤6
 |0,c,hc=>by cases hc
 |n+1,c,hc=>by
  have ih:=wZ (K:=K) hl n;have gl:=(hl.bk K n);cases hv:K[n]? with
  |none=>rw[a8,hv]at hc;exact ih c hc
  |some v=>
   rw[a8,hv]at hc;dsimp only at hc;split at hc
   ·rcases List.mem_append.1 hc with h|h
    ·exact ih c h
    ·exact(gl.do (aA v)).n6 c (by
      cases hq:(kH (a8 K l n).2 (aA v)).1[v.chain.toNat]? with
      |none=>rw[hq]at h;simp at h
      |some y=>rw[hq]at h;simp at h;subst h;exact List.mem_of_getElem? hq)
   ·exact ih c hc
theorem Qo {K:List ai} {l:List CF} (hK:Av K) (hl:Km l) (n0:Nat) (hn:n0≤aD K) (kn:List (Int×b8)) (m9:∀s,bH kn s=(tF K s).map aA) (top:Int):
 VC E0 131 2 [.ptr 0 0] (D5 (Vj kn top K l n0)) (RR (.tk 2) 3 [(0,y9 (Vj kn top K l (aD K)) 1),(1,j5 (Vj kn top K l (aD K))),(2,.arr 5 true ((Mw K l n0).map aJ))]):=by
 have ae4:=hK.len;have hnK:=y8 K;refine en L0 Tryz.f131 ?_;refine⟨fun kk f o c=>∃(n:Nat) (es:List (List TV)),n0≤n∧n≤aD K∧kk=aD K - n∧es=((a8 K l n).1.drop (a8 K l n0).1.length).map aJ∧c=3∧f=[(0,.ptr 0 0),(3,.tk 2)]∧o=[(0,y9 (Vj kn top K l n) 1),(1,j5 (Vj kn top K l n)),(2,.arr 5 true es)],⟨aD K - n0,?_⟩,?_⟩
 ·exact⟨[],[some 0,some 1,none],_,_,_,t3,⟨n0,[],Nat.le_refl _,hn,rfl,by rw[List.drop_length];rfl,rfl,rfl,rfl⟩⟩
 ·rintro kk f1 o1 c1 ⟨n,es,h1,h2,rfl,pj,rfl,rfl,rfl⟩;have oz:=l9 .i64 .i64 pQ (n:Int) kn;rw[m9]at oz;have gl:=hl.bk K n;have bV:=qx K l n;have UZ:es.length<1000:=by rw[pj];simp;omega
  refine wh ?_;by_cases aU:n<aD K
  ·obtain⟨v,qJ,NR⟩:=TR hK aU;have y5:=hK.ep v (List.mem_of_getElem? qJ);rw[NR]at oz;refine⟨_,oz,?_⟩;refine wh ?_;refine⟨[],[],_,_,_,_,XG (a8 K l n).2 (aA v) (by have:=gl.len;omega) (fun c hc=>by have:=gl.n6 c hc;omega) gl.ep,t3,?_⟩;rintro r o' c' ⟨rfl,rfl,rfl⟩;cases hd:(kH (a8 K l n).2 (aA v)).2
   ·have hs:=BH (l:=l) qJ (.inl hd);refine wh ?_;refine⟨aD K - (n+1),?_,om⟩;refine⟨[],[some 0,some 1,some 2],?_⟩
    iterate 3 constructor
    refine⟨⟨?_,?_,?_⟩,⟨n+1,es,om,by omega,rfl,by rw[hs];exact pj,rfl,rfl,rfl⟩⟩
    all_goals(repeat' first|exact LF|constructor)
    all_goals exact Lz.of (by simp only[hs])
   ·refine wh ?_;refine sp ?_ ?_<;>intro hk
    ·have hk:v.kind=0:=hk;have hs:=BH (l:=l) qJ (.inr hk);refine wh ?_;refine⟨aD K - (n+1),?_,om⟩;refine⟨[],[some 0,some 1,some 2],?_⟩
     iterate 3 constructor
     refine⟨⟨?_,?_,?_⟩,⟨n+1,es,om,by omega,rfl,by rw[hs];exact pj,rfl,rfl,rfl⟩⟩
     all_goals(repeat' first|exact LF|constructor)
     all_goals exact Lz.of (by simp only[hs])
    ·have hk:¬v.kind=0:=hk;have hcz:=P2 (c:=aA v) hd hk;obtain⟨ha,rG,ad0,hm⟩:=DB (c:=aA v) hcz hk;have mw:0≤v.chain∧v.chain<4:=⟨(np rG hk).1,(np rG hk).2.1⟩;have eA:v.chain.toNat<(kH (a8 K l n).2 (aA v)).1.length:=by rw[Kn];exact ad0
     have hs:=Mt qJ hd hk eA;have Fp:=(si K l n0 (n - n0)).length_le;rw[show n0+(n - n0)=n by omega]at Fp;refine wh ?_;refine⟨⟨mw.1,by rw[List.length_map];show v.chain<_;omega⟩,?_⟩;refine wh ?_;refine⟨aJ (kH (a8 K l n).2 (aA v)).1[v.chain.toNat],by show(List.map aJ (kH (a8 K l n).2 (aA v)).1)[v.chain.toNat]? =_;rw[List.getElem?_map,List.getElem?_eq_getElem eA];rfl,?_⟩;refine wh ?_;refine⟨by simp;omega,?_⟩;refine wh ?_;refine⟨aD K - (n+1),?_,om⟩;refine⟨[4],[some 0,some 1,some 6],?_⟩
     iterate 3 constructor
     refine⟨⟨?_,?_,?_⟩,⟨n+1,?_,om,by omega,rfl,?_,rfl,rfl,rfl⟩⟩
     all_goals(repeat' first|exact LF|constructor)
     ·exact Lz.int (by show IntKind.i64.wrap ((((a8 K l n).1.length:Nat):Int)+1)=(((a8 K l (n+1)).1.length:Nat):Int);rw[hs,List.length_append,IntWalk.i64_in _ om];simp)
     ·exact Lz.of (by simp only[hs])
     ·rw[hs,pj,List.drop_append_of_le_length Fp,List.map_append];rfl
  ·have KT:n=aD K:=by omega
   subst KT;rw[Ms hK]at oz;refine⟨_,oz,?_⟩;refine wh ?_;subst pj;refine⟨[2],[],_,_,_,_,Qn (Mw K l n0) (by simp[Mw];omega) (fun c hc=>by have:=wZ (K:=K) hl _ c (List.mem_of_mem_drop hc);omega),t3,cw ?_⟩;exact⟨[],[some 0,some 1,some 4],_,_,_,t3,rfl,rfl,rfl⟩
@[reducible] noncomputable def oR (kn:List (Int×b8)) (K:List ai) (l:List CF):oN:=Vj kn (pN K) K l (aD K)
theorem ze {K:List ai} (h:Av K) (l:List CF) {slot:Int} {c:b8} (hs:0≤slot∧slot<512) (hc:c.check=0) (ho:other K slot c=false):bp K l slot c=(put K (.of slot 0 c),Mw (put K (.of slot 0 c)) l (aD K),0):=by
 have e:Mw (put K (.of slot 0 c)) l (aD K)=(gS (put K (.of slot 0 c)) l).drop (gS K l).length:=by
  unfold Mw gS;rw[(oj h hs.1 ho).2]
 rw[e];unfold bp;rw[if_neg om,if_neg (fun q=>q hc),if_neg (by rw[ho];simp)]
theorem Mx {K:List ai} (h:SS K) {kn:List (Int×b8)} (m9:∀s,bH kn s=(tF K s).map aA) (slot:Int) (c:b8) (s:Int):bH (g5 kn slot c) s=(tF (put K (.of slot 0 c)) s).map aA:=by
 rw[qu,TQ h,m9];show _=(if s=slot then some (ai.of slot 0 c)else tF K s).map aA;split<;>rfl
theorem IW {K:List ai} (h:Av K) {slot:Int} {c:b8} (hs:0≤slot∧slot<512):(if IntKind.i64.wrap (slot+1)>pN K then IntKind.i64.wrap (slot+1)else pN K)=pN (put K (.of slot 0 c)):=by
 rw[Qm h.ss _ hs.1,IntWalk.i64_in _ om];show _=max (pN K) (slot+1);split<;>omega
theorem My {K:List ai} {l:List CF} (hK:Av K) (ho:Km l) (slot:Int) (c:b8) (hc:0≤c.aq) (kn:List (Int×b8)) (m9:∀s,bH kn s=(tF K s).map aA):
 VC E0 92 2 [.ptr 0 0,.s (.int .i64 slot),Kh c] (D5 (oR kn K l)) (fun r o c'=>∃so,(∀s,bH so s=(tF (bp K l slot c).1 s).map aA)∧c'=3∧r= .c4 [.tk 2,.s (.int .i64 (bp K l slot c).2.2)]∧
  o=[(0,y9 (oR so (bp K l slot c).1 l) 1),(1,j5 (oR so (bp K l slot c).1 l)),(2,.arr 5 true ((bp K l slot c).2.1.map aJ))]):=by
 refine en L0 Tryz.f92 ?_;refine sp ?_ ?_<;>intro h1
 ·have h1:slot<0:=h1;have hL:bp K l slot c=(K,[],1):=by unfold bp;rw[if_pos (.inl h1)]
  rw[hL];refine wh ?_;exact⟨[],[some 0,some 1,none],_,_,_,t3,kn,m9,rfl,rfl,rfl⟩
 have h1:¬slot<0:=h1;refine wh ?_;refine sp ?_ ?_<;>intro h2
 ·have h2:slot≥512:=h2;have hL:bp K l slot c=(K,[],1):=by unfold bp;rw[if_pos (.inr om)]
  rw[hL];refine wh ?_;exact⟨[],[some 0,some 1,none],_,_,_,t3,kn,m9,rfl,rfl,rfl⟩
 have h2:¬slot≥512:=h2;refine wh ?_;refine⟨[],[],_,_,_,_,lk c.kind c.chain c.aq c.node,t3,cw ?_⟩;refine sp ?_ ?_<;>intro h3
 ·have h3:c.check≠0:=h3;have hL:bp K l slot c=(K,[],c.check):=by unfold bp;rw[if_neg om,if_pos h3]
  rw[hL];refine wh ?_;exact⟨[],[some 0,some 1,none],_,_,_,t3,kn,m9,rfl,rfl,rfl⟩
 have h3:c.check=0:=Classical.not_not.1 h3;have hs:0≤slot∧slot<512:=⟨om,om⟩;have YD:Av (put K (.of slot 0 c)):=hK.put hs hc;have wD:=Mx hK.ss m9 slot c;have TS:=IW (c:=c) hK hs;have oz:=l9 .i64 .i64 pQ slot kn;rw[m9]at oz;refine wh ?_;cases D3:tF K slot with
 |none=>
  have IX:other K slot c=false:=by unfold other;rw[D3]
  obtain⟨xF,kR⟩:=oj (l:=l) hK hs.1 IX;have uq:=Qo YD ho (aD K) xF (g5 kn slot c) wD (pN (put K (.of slot 0 c)));rw[D3]at oz;rw[ze hK l hs h3 IX];refine⟨_,oz,?_⟩;refine wh ?_;refine⟨[],[some 0,some 1],_,_,_,_,uq,⟨by((repeat' first|exact LF|constructor);all_goals(first|exact Lz.of (pJ .i64 pQ slot c kn)|exact Lz.int TS|exact Lz.of (by simp only[oR,Vj,kR]))),by((repeat' first|exact LF|constructor);all_goals(first|exact Lz.of (pJ .i64 pQ slot c kn)|exact Lz.int TS|exact Lz.of (by simp only[kR]))),by rfl⟩,?_⟩;rintro r o' c' ⟨rfl,rfl,rfl⟩;refine wh ?_
  exact⟨[],[some 0,some 1,some 6],_,_,_,t3,g5 kn slot c,wD,rfl,rfl,rfl⟩
 |some v=>
  rw[D3]at oz;refine⟨_,oz,?_⟩;refine wh ?_;refine sp ?_ ?_<;>intro hv
  ·have IX:other K slot c=true:=by
    have q:=(tI (aA v) c).symm.trans hv;unfold other;rw[D3];simp only[q];rfl
   have hL:bp K l slot c=(K,[],8):=by unfold bp;rw[if_neg om,if_neg (fun q=>q h3),if_pos IX]
   rw[hL];refine wh ?_;exact⟨[],[some 0,some 1,none],_,_,_,t3,kn,m9,rfl,rfl,rfl⟩
  ·have IX:other K slot c=false:=by
    have q:=(tI (aA v) c).symm.trans (Bool.not_eq_false _▸hv);unfold other;rw[D3];simp only[q];rfl
   obtain⟨xF,kR⟩:=oj (l:=l) hK hs.1 IX;have uq:=Qo YD ho (aD K) xF (g5 kn slot c) wD (pN (put K (.of slot 0 c)));rw[ze hK l hs h3 IX];refine wh ?_;refine⟨[],[some 0,some 1],_,_,_,_,uq,⟨by((repeat' first|exact LF|constructor);all_goals(first|exact Lz.of (pJ .i64 pQ slot c kn)|exact Lz.int TS|exact Lz.of (by simp only[oR,Vj,kR]))),by((repeat' first|exact LF|constructor);all_goals(first|exact Lz.of (pJ .i64 pQ slot c kn)|exact Lz.int TS|exact Lz.of (by simp only[kR]))),by rfl⟩,?_⟩;rintro r o' c' ⟨rfl,rfl,rfl⟩;refine wh ?_;exact⟨[],[some 0,some 1,some 6],_,_,_,t3,g5 kn slot c,wD,rfl,rfl,rfl⟩
set_option maxHeartbeats 8000000
structure MS where
 me:Int
 ah:Int
 nodes:Int
 eC:Int
 aK:Int
 quiet:Int
 waited:Int
 q:Acp
 kn:List (Int×b8)
 K:List ai
 l:List CF
 p:aB×Bool
 out:List bS
@[reducible] def TT (x:oN):TO:=.cells [.own (j5 x),.s (.int .i64 x.next),.s (.int .i64 x.top),.s (.int .i64 x.done),.sl 5 (x.bK.map aJ) false]
@[reducible] noncomputable def ad1 (s:MS):List TV:=[.s (.int .i64 s.me),.s (.int .i64 s.ah),.s (.int .i64 s.nodes),.s (.int .i64 s.eC),.s (.int .i64 s.aK),.s (.int .i64 s.quiet),.s (.int .i64 s.waited),.own (FX s.q),.own (TT (oR s.kn s.K s.l)),.own (ie s.p),.own (.arr 25 true (s.out.map bu))]
@[reducible] noncomputable def IY (s:MS):TO:=.cells (ad1 s)
@[reducible] noncomputable def bz (s:MS):Ob:=[(0,IY s)]
@[reducible] def bF (s:MS):Int:=100+s.me
theorem c7 (s:MS) (h:1≤s.me∧s.me≤5):VC E0 13 1 [.ptr 0 0] (bz s) (RR (.s (.int .i64 (bF s))) 1 (bz s)):=by
 refine en L0 Tryz.f13 ?_;refine⟨[],[some 0],_,_,_,tx ?_,rfl,rfl,rfl⟩;exact Lz.int (by rw[IntWalk.i64_in _ om])
theorem Gj (s:MS) (hp:PX s.p):VC E0 43 1 [.ptr 0 0] (bz s) (RR (.s (.bool (decide (s.p.1.st=2)))) 1 (bz s)):=by
 obtain⟨me,ms,nodes,eC,aK,quiet,waited,q,kn,K,l,⟨x,f⟩,out⟩:=s;cases f
 all_goals
  refine en L0 Tryz.f43 ?_;refine⟨[],[some 1],_,_,_,_,u5 (x,_) hp,t3,cw ?_⟩;refine sp ?_ ?_<;>intro h
  ·refine wh ?_;refine⟨[],[some 0],_,_,_,tx ?_,rfl,rfl,rfl⟩;exact Lz.of (an (Eq.symm (decide_eq_true h)))
  ·refine wh ?_;refine⟨[],[some 0],_,_,_,tx ?_,rfl,rfl,rfl⟩;exact Lz.of (an (Eq.symm (decide_eq_false h)))
theorem oE (s:MS):VC E0 21 1 [.ptr 0 0] (bz s) (RR (.tk 1) 2 [(0,IY {s with out:=[]}),(1,.arr 25 true (s.out.map bu))]):=by
 refine en L0 Tryz.f21 ?_;exact⟨[],[some 0,some 1],_,_,_,t3,rfl,rfl,rfl⟩
@[reducible] def vX (s:MS) (m:bS) (to:Int):bS:={m with ak:=bF s,to:=to}
@[reducible] def DI (s:MS) (m:bS) (to:Int):MS:={s with out:=s.out++[vX s m to]}
theorem vY (s:MS) (m:bS) (to:Int) (h:1≤s.me∧s.me≤5) (BI:to≠bF s) (hl:s.out.length<100000):VC E0 46 1 [.ptr 0 0,.agg (bu m),.s (.int .i64 to)] (bz s) (RR (.c4 []) 1 (bz (DI s m to))):=by
 refine en L0 Tryz.f46 ?_;refine⟨[],[some 0],_,_,_,_,c7 s h,t3,cw ?_⟩;refine⟨[],[some 0],_,_,_,_,c7 s h,t3,cw ?_⟩;refine sp ?_ ?_<;>intro h1
 ·exact absurd h1 BI
 ·refine wh ?_;refine⟨by simp;omega,?_⟩;refine wh ?_;refine⟨[],[some 0],_,_,_,tx ?_,rfl,rfl,rfl⟩;exact Lz.of (by simp[cQ])
def mK (s:MS) (m:bS) (k:Nat):List bS:=((List.range k).filter fun(i:Nat)=>decide ((i:Int)+1≠s.me)).map fun(i:Nat)=>vX s m (100+(i:Int)+1)
theorem Qp {s:MS} {m:bS} {k:Nat} (h:(k:Int)+1≠s.me):mK s m (k+1)=mK s m k++[vX s m (100+(k:Int)+1)]:=by
 unfold mK;rw[List.range_succ,List.filter_append,List.map_append];simp[h]
theorem TU {s:MS} {m:bS} {k:Nat} (h:(k:Int)+1=s.me):mK s m (k+1)=mK s m k:=by
 unfold mK;rw[List.range_succ,List.filter_append,List.map_append];simp[h]
theorem lB (s:MS) (m:bS) (k:Nat):(mK s m k).length≤k:=by
 unfold mK;rw[List.length_map];exact Nat.le_trans (List.length_filter_le _ _) (by simp)
@[reducible] def bo (s:MS) (m:bS):MS:={s with out:=s.out++mK s m s.ah.toNat}
theorem qy (s:MS) (m:bS) (h:1≤s.me∧s.me≤5) (hm:1≤s.ah∧s.ah≤5) (hl:s.out.length<90000):VC E0 24 1 [.ptr 0 0,.agg (bu m)] (bz s) (RR (.c4 []) 1 (bz (bo s m))):=by
 refine en L0 Tryz.f24 ?_
 refine⟨fun k f o c=>∃i:Nat,i≤s.ah.toNat∧k=s.ah.toNat - i∧c=2∧f=[(0,.ptr 0 0),(3,.ptr 1 0),(8,.s (.int .i64 s.ah)),(9,.s (.int .i64 i))]∧
  o=bz {s with out:=s.out++mK s m i}++[(1,.cells (bu m))],⟨s.ah.toNat,?_⟩,?_⟩
 ·refine⟨[],[some 0,some 1],?_⟩
  iterate 3 constructor
  refine⟨⟨?_,?_,?_⟩,⟨0,Nat.zero_le _,rfl,rfl,rfl,rfl⟩⟩
  all_goals(repeat' first|exact LF|constructor)
  all_goals first|exact Lz.rfl|exact Lz.of (by simp[mK])
 ·rintro k f1 o1 c1 ⟨i,hi,rfl,rfl,rfl,rfl⟩;have hn:=lB s m i;have hw:IntKind.i64.wrap ((i:Int)+1)=(i:Int)+1:=IntWalk.i64_in _ om;refine wh ?_;refine sp ?_ ?_<;>intro aU
  ·have aU:(i:Int)<s.ah:=aU;refine wh ?_;refine sp ?_ ?_<;>intro bD
   ·have bD:IntKind.i64.wrap ((i:Int)+1)≠s.me:=bD;rw[hw]at bD;refine wh ?_;have BI:IntKind.i64.wrap (IntKind.i64.wrap (100+(i:Int))+1)=100+(i:Int)+1:=by rw[IntWalk.i64_in (100+(i:Int)) om,IntWalk.i64_in _ om]
    rw[BI];refine⟨[],[some 0],_,_,_,_,vY {s with out:=s.out++mK s m i} m (100+(i:Int)+1) h (by show 100+(i:Int)+1≠100+s.me;omega) (by simp;omega),t3,cw ?_⟩;refine⟨s.ah.toNat - (i+1),?_,om⟩;refine⟨[],[some 0,some 1],_,_,_,tx ?_,⟨i+1,om,rfl,rfl,rfl,rfl⟩⟩;exact Lz.of (by rw[Qp bD,←List.append_assoc,List.map_append (l₁:=s.out++mK s m i)])
   ·have bD:¬IntKind.i64.wrap ((i:Int)+1)≠s.me:=bD;rw[hw]at bD;have bD:(i:Int)+1=s.me:=Classical.not_not.1 bD;refine wh ?_;refine⟨s.ah.toNat - (i+1),?_,om⟩;refine⟨[],[some 0,some 1],_,_,_,tx ?_,⟨i+1,om,rfl,rfl,rfl,rfl⟩⟩;exact Lz.of (by rw[TU bD])
  ·have aU:¬(i:Int)<s.ah:=aU;obtain rfl:i=s.ah.toNat:=by omega
   refine wh ?_;exact⟨[],[some 0],_,_,_,t3,rfl,rfl,rfl⟩
@[reducible] def Kq (c:CF):bS:=⟨11,0,0,0,0,aF,c,[]⟩
@[reducible] def oq (s:Int) (c:b8):bS:=⟨5,0,0,0,s,c,aS,[]⟩
@[reducible] def gB (s:MS) (c:CF) (l:List Int):List bS:=l.map fun n=>vX s (Kq c) n
@[reducible] def re (s:MS) (c:CF):MS:={s with out:=s.out++gB s c (aG c)}
theorem zg {s:MS} {c:CF} {i:Nat} (h:i<(aG c).length):gB s c ((aG c).take (i+1))=gB s c ((aG c).take i)++[vX s (Kq c) (aG c)[i]]:=by
 unfold gB;rw[gu _ i h,List.map_append];rfl
theorem Vk (s:MS) (c:CF) (h:1≤s.me∧s.me≤5) (hn:c.nodes.length≤1000) (BI:∀n∈aG c,n≠bF s) (hl:s.out.length<90000):VC E0 50 1 [.ptr 0 0,.agg (aJ c)] (bz s) (RR (.c4 []) 1 (bz (re s c))):=by
 have KY:=fi c;refine en L0 Tryz.f50 ?_;refine⟨[],[],_,_,_,_,ig c.nodes om,t3,cw ?_⟩;refine sp ?_ ?_<;>intro hj;rotate_left
 ·have hj:c.join=0:=Classical.not_not.1 hj;have bN:aG c=c.nodes:=by unfold aG;simp[hj]
  refine wh ?_
  refine⟨fun k f o cc=>∃i:Nat,i≤(aG c).length∧k=(aG c).length - i∧cc=3∧f=[(0,.ptr 0 0),(3,.ptr 1 0),(18,.tk 2),(19,.s (.int .i64 ((aG c).map aW).length)),(20,.s (.int .i64 i))]∧
   o=bz {s with out:=s.out++gB s c ((aG c).take i)}++[(1,.cells (aJ c)),(2,.arr 1 true ((aG c).map aW))],⟨(aG c).length,?_⟩,?_⟩
  ·refine⟨[],[some 0,some 1,some 2],?_⟩
   iterate 3 constructor
   refine⟨⟨?_,?_,?_⟩,⟨0,Nat.zero_le _,rfl,rfl,rfl,rfl⟩⟩
   all_goals(repeat' first|exact LF|constructor)
   all_goals first|exact Lz.rfl|exact Lz.of (by simp[bN,goInt])|exact Lz.of (by simp[gB])
  ·rintro k f1 o1 c1 ⟨i,hi,rfl,rfl,rfl,rfl⟩;refine wh ?_;refine sp ?_ ?_<;>intro aU
   ·have aU:i<(aG c).length:=fW.1 aU;refine wh ?_;refine⟨⟨om,by simp;omega⟩,?_⟩;refine wh ?_;refine⟨aW (aG c)[i],by simp[aU],?_⟩;refine wh ?_;refine⟨[3],[],_,_,_,_,Qn [c] (by simp) (by simp;omega),t3,cw ?_⟩;refine⟨by simp,?_⟩;refine wh ?_;refine⟨aJ c,rfl,?_⟩;refine wh ?_;refine⟨[],[some 0],_,_,_,_,vY {s with out:=s.out++gB s c ((aG c).take i)} (Kq c) (aG c)[i] h (BI _ (List.getElem_mem aU)) (by simp;omega),t3,cw ?_⟩;refine⟨(aG c).length - (i+1),?_,om⟩;refine⟨[],[some 0,some 1,some 2],_,_,_,tx ?_,⟨i+1,aU,rfl,rfl,rfl,rfl⟩⟩
    exact Lz.of (by rw[zg aU,←List.append_assoc,List.map_append (l₁:=s.out++gB s c ((aG c).take i))])
   ·have aU:¬i<(aG c).length:=mt fW.2 aU;refine wh ?_;refine⟨[],[some 0],_,_,_,tx ?_,rfl,rfl,rfl⟩;exact Lz.of (by rw[List.take_of_length_le (Nat.not_lt.1 aU)])
 ·have hj:¬c.join=0:=hj;have bN:aG c=c.nodes++[c.join]:=by unfold aG;simp[hj]
  refine wh ?_;refine⟨by simp;omega,?_⟩;refine wh ?_
  refine⟨fun k f o cc=>∃i:Nat,i≤(aG c).length∧k=(aG c).length - i∧cc=3∧f=[(0,.ptr 0 0),(3,.ptr 1 0),(18,.tk 2),(19,.s (.int .i64 ((aG c).map aW).length)),(20,.s (.int .i64 i))]∧
   o=bz {s with out:=s.out++gB s c ((aG c).take i)}++[(1,.cells (aJ c)),(2,.arr 1 true ((aG c).map aW))],⟨(aG c).length,?_⟩,?_⟩
  ·refine⟨[],[some 0,some 1,some 4],?_⟩
   iterate 3 constructor
   refine⟨⟨?_,?_,?_⟩,⟨0,Nat.zero_le _,rfl,rfl,rfl,rfl⟩⟩
   all_goals(repeat' first|exact LF|constructor)
   all_goals first|exact Lz.rfl|exact Lz.of (by simp[bN,goInt])|exact Lz.of (by simp[gB])
  ·rintro k f1 o1 c1 ⟨i,hi,rfl,rfl,rfl,rfl⟩;refine wh ?_;refine sp ?_ ?_<;>intro aU
   ·have aU:i<(aG c).length:=fW.1 aU;refine wh ?_;refine⟨⟨om,by simp;omega⟩,?_⟩;refine wh ?_;refine⟨aW (aG c)[i],by simp[aU],?_⟩;refine wh ?_;refine⟨[3],[],_,_,_,_,Qn [c] (by simp) (by simp;omega),t3,cw ?_⟩;refine⟨by simp,?_⟩;refine wh ?_;refine⟨aJ c,rfl,?_⟩;refine wh ?_;refine⟨[],[some 0],_,_,_,_,vY {s with out:=s.out++gB s c ((aG c).take i)} (Kq c) (aG c)[i] h (BI _ (List.getElem_mem aU)) (by simp;omega),t3,cw ?_⟩;refine⟨(aG c).length - (i+1),?_,om⟩;refine⟨[],[some 0,some 1,some 2],_,_,_,tx ?_,⟨i+1,aU,rfl,rfl,rfl,rfl⟩⟩
    exact Lz.of (by rw[zg aU,←List.append_assoc,List.map_append (l₁:=s.out++gB s c ((aG c).take i))])
   ·have aU:¬i<(aG c).length:=mt fW.2 aU;refine wh ?_;refine⟨[],[some 0],_,_,_,tx ?_,rfl,rfl,rfl⟩;exact Lz.of (by rw[List.take_of_length_le (Nat.not_lt.1 aU)])
@[reducible] noncomputable def Qq (x:oN):Ob:=[(0,TT x)]
theorem pS (x:oN):VC E0 47 1 [.ptr 0 0] (Qq x) (RR (.s (.int .i64 x.next)) 1 (Qq x)):=by
 have gg:=P5 x;refine VC.told (R:=RR (.s (.int .i64 x.next)) 4 (D5 x)) (VC.ld (m0:=0) rfl ?_) ?_
 ·show iU false (VC E0) _ _ [(1,j5 x),(0,y9 x 1)] 2 _;refine⟨[],[some 0,some 1],_,_,_,_,gg,t3,?_⟩;rintro r o' c' ⟨rfl,rfl,rfl⟩;exact⟨rfl,rfl,rfl⟩
 ·rintro r o' c' ⟨rfl,rfl,rfl⟩;exact⟨[],[some 0],_,_,_,t3,rfl,rfl,rfl⟩
theorem XI (x:oN) (slot:Int):VC E0 93 1 [.ptr 0 0,.s (.int .i64 slot)] (Qq x) (RR (.c4 [pQ ((bH x.known slot).getD aF),.s (.bool (bH x.known slot).isSome)]) 1 (Qq x)):=by
 have gg:=Xc x slot;refine VC.told (R:=RR (.c4 [pQ ((bH x.known slot).getD aF),.s (.bool (bH x.known slot).isSome)]) 4 (D5 x)) (VC.ld (m0:=0) rfl ?_) ?_
 ·show iU false (VC E0) _ _ [(1,j5 x),(0,y9 x 1)] 2 _;refine⟨[],[some 0,some 1],_,_,_,_,gg,t3,?_⟩;rintro r o' c' ⟨rfl,rfl,rfl⟩;exact⟨rfl,rfl,rfl⟩
 ·rintro r o' c' ⟨rfl,rfl,rfl⟩;exact⟨[],[some 0],_,_,_,t3,rfl,rfl,rfl⟩
theorem TW (x:oN) (c:b8):VC E0 44 1 [.ptr 0 0,Kh c] (Qq x) (RR (.s (.int .i64 (iI x.bK c))) 1 (Qq x)):=by
 have gg:=TG x c;refine VC.told (R:=RR (.s (.int .i64 (iI x.bK c))) 4 (D5 x)) (VC.ld (m0:=0) rfl ?_) ?_
 ·show iU false (VC E0) _ _ [(1,j5 x),(0,y9 x 1)] 2 _;refine⟨[],[some 0,some 1],_,_,_,_,gg,t3,?_⟩;rintro r o' c' ⟨rfl,rfl,rfl⟩;exact⟨rfl,rfl,rfl⟩
 ·rintro r o' c' ⟨rfl,rfl,rfl⟩;exact⟨[],[some 0],_,_,_,t3,rfl,rfl,rfl⟩
theorem u7 (x:oN) (hl:x.bK.length<10000) (hn:∀c∈x.bK,c.nodes.length<1000000):VC E0 28 1 [.ptr 0 0] (Qq x) (RR (.sl 5 (x.bK.map aJ) false) 1 (Qq x)):=by
 have gg:=BC x hl hn;refine VC.told (R:=RR (.sl 5 (x.bK.map aJ) false) 4 (D5 x)) (VC.ld (m0:=0) rfl ?_) ?_
 ·show iU false (VC E0) _ _ [(1,j5 x),(0,y9 x 1)] 2 _;refine⟨[],[some 0,some 1],_,_,_,_,gg,t3,?_⟩;rintro r o' c' ⟨rfl,rfl,rfl⟩;exact⟨rfl,rfl,rfl⟩
 ·rintro r o' c' ⟨rfl,rfl,rfl⟩;exact⟨[],[some 0],_,_,_,t3,rfl,rfl,rfl⟩
theorem Mz {K:List ai} {l:List CF} (hK:Av K) (ho:Km l) (slot:Int) (c:b8) (hc:0≤c.aq) (kn:List (Int×b8)) (m9:∀s,bH kn s=(tF K s).map aA):
 VC E0 92 1 [.ptr 0 0,.s (.int .i64 slot),Kh c] (Qq (oR kn K l)) (fun r o c'=>∃so,(∀s,bH so s=(tF (bp K l slot c).1 s).map aA)∧c'=2∧r= .c4 [.tk 1,.s (.int .i64 (bp K l slot c).2.2)]∧
  o=[(0,TT (oR so (bp K l slot c).1 l)),(1,.arr 5 true ((bp K l slot c).2.1.map aJ))]):=by
 refine VC.told (R:=fun r o c'=>∃so,(∀s,bH so s=(tF (bp K l slot c).1 s).map aA)∧c'=5∧r= .c4 [.tk 4,.s (.int .i64 (bp K l slot c).2.2)]∧
  o=[(0,y9 (oR so (bp K l slot c).1 l) 1),(1,j5 (oR so (bp K l slot c).1 l)),(4,.arr 5 true ((bp K l slot c).2.1.map aJ))]) (VC.ld (m0:=0) rfl ?_) ?_
 ·show iU false (VC E0) _ _ [(1,j5 (oR kn K l)),(0,y9 (oR kn K l) 1)] 2 _;refine⟨[],[some 0,some 1],_,_,_,_,My hK ho slot c hc kn m9,t3,?_⟩;rintro r o' c' ⟨so,wD,rfl,rfl,rfl⟩;exact⟨so,wD,rfl,rfl,rfl⟩
 ·rintro r o' c' ⟨so,wD,rfl,rfl,rfl⟩;exact⟨[],[some 0,some 4],_,_,_,t3,⟨so,wD,rfl,rfl,rfl⟩⟩
def XJ (s:MS):Prop:=∀x,bH s.kn x=(tF s.K x).map aA
def g6 (s:MS) (l:List CF):List bS:=l.flatMap fun c=>gB s c (aG c)
noncomputable def DJ (s:MS) (slot:Int) (c:b8) (so:List (Int×b8)):MS:=
 {s with kn:=so,K:=(bp s.K s.l slot c).1,out:=s.out++(if s.p.1.st=2 then g6 s (bp s.K s.l slot c).2.1 else [])}
structure vZ (x:aB):Prop where
 me:m5 x.me
 ms:m5 x.ah
 cm:fh x
 op:ef x
 ev:∀e∈x.eJ,tu e.2.2
 oc:∀e∈x.eJ,e.2.1.check=0
 cv:∀e∈x.bk,∀v∈e.2,(aA v).check=0
 cu:0≤x.cu∧x.cu≤512
 b:0≤x.b∧x.b≤18446744073709551615
 s1:x.st=1→x.cu=x.ak∧x.eJ=[]
 cf:∀e∈x.bk,∀v∈e.2,x.ak≤v.slot
structure dc (s:MS):Prop where
 me:1≤s.me∧s.me≤5
 ms:s.me≤s.ah∧s.ah≤5
 px:PX s.p
 lw:vZ s.p.1
 qk:Vc s.q.1 s.q.2
 qc:∀e∈s.q.2,(aA e.2).check=0
 qp:0≤s.q.1∧s.q.1≤18446744073709551615
 kn:XJ s
 kK:Av s.K
 lE:Km s.l
 nd:∀K,Av K→∀c∈(a8 K s.l (aD K)).1,∀x∈aG c,x≤24
 nc:∀K,Av K→∀c∈(a8 K s.l (aD K)).2,∀x∈aG c,x≤24
theorem zh (s:MS) (l:List CF) (h:∀c∈l,c.nodes.length≤6):(g6 s l).length≤l.length*7:=by
 induction l with
 |nil=>simp[g6]
 |cons c l ih=>
  have h1:=fi c;have h2:=h c List.mem_cons_self;have h3:=ih fun x hx=>h x (List.mem_cons_of_mem _ hx);unfold g6 at h3 ⊢;rw[List.flatMap_cons,List.length_append];have:(gB s c (aG c)).length=(aG c).length:=by simp[gB]
  simp only[List.length_cons];omega
theorem Gk {s:MS} {l:List CF} {i:Nat} (h:i<l.length):g6 s (l.take (i+1))=g6 s (l.take i)++gB s l[i] (aG l[i]):=by
 unfold g6;rw[gu _ i h,List.flatMap_append];simp
theorem zi {K:List ai} {l:List CF} (hK:Av K) (_:Km l) (slot:Int) (c:b8) (hc:0≤c.aq):Av (bp K l slot c).1∧(∀x∈(bp K l slot c).2.1,x∈(a8 (bp K l slot c).1 l (aD (bp K l slot c).1)).1)∧(bp K l slot c).2.1.length≤1000:=by
 unfold bp;split
 ·exact⟨hK,by simp,by simp⟩
 split
 ·exact⟨hK,by simp,by simp⟩
 split
 ·exact⟨hK,by simp,by simp⟩
 rename_i h1 h2 h3;have hp:Av (put K (.of slot 0 c)):=hK.put om hc;refine⟨hp,fun x hx=>List.mem_of_mem_drop hx,?_⟩;have h4:=qx (put K (.of slot 0 c)) l (aD (put K (.of slot 0 c)));have h5:=y8 (put K (.of slot 0 c));have h6:=hp.len;show((gS (put K (.of slot 0 c)) l).drop (gS K l).length).length≤1000;rw[List.length_drop];unfold gS;omega
theorem XK (s:MS) (H:dc s) (m:bS) (hc:0≤m.cmd.aq) (hl:s.out.length<50000):VC E0 40 1 [.ptr 0 0,.agg (bu m)] (bz s)
 (fun r o c=>∃so,XJ (DJ s m.slot m.cmd so)∧r= .c4 []∧c=1∧o=bz (DJ s m.slot m.cmd so)):=by
 obtain⟨YD,Ip,bV⟩:=zi H.kK H.lE m.slot m.cmd hc;have mH:=H.me;have hpx:=H.px;have h24:=H.nd _ YD;have hn6:∀c∈(bp s.K s.l m.slot m.cmd).2.1,c.nodes.length≤6:=fun c hc=>wZ H.lE _ c (Ip c hc);unfold DJ;refine en L0 Tryz.f40 ?_;refine⟨[],[some 2],_,_,_,_,Mz H.kK H.lE m.slot m.cmd hc s.kn H.kn,t3,?_⟩;rintro r o' c' ⟨so,wD,rfl,rfl,rfl⟩;refine wh ?_;generalize (bp s.K s.l m.slot m.cmd).2.2=er at*
 generalize (bp s.K s.l m.slot m.cmd).2.1=bk at*
 generalize (bp s.K s.l m.slot m.cmd).1=K' at*
 have hlen:∀i,(if s.p.1.st=2 then g6 s (bk.take i)else []).length≤7000:=fun i=>by
  split
  ·have h1:=zh s (bk.take i) fun c hc=>hn6 c (List.mem_of_mem_take hc);have h2:(bk.take i).length≤bk.length:=by simp;omega
   omega
  ·simp
 refine⟨fun k f o cc=>∃i:Nat,i≤bk.length∧k=bk.length - i∧cc=3∧f=[(0,.ptr 0 0),(3,.ptr 1 0),(20,.tk 2),(21,.s (.int .i64 (bk.map aJ).length)),(22,.s (.int .i64 i))]∧
  o=bz {s with kn:=so,K:=K',out:=s.out++(if s.p.1.st=2 then g6 s (bk.take i)else [])}++[(1,.cells (bu m)),(2,.arr 5 true (bk.map aJ))],⟨bk.length,?_⟩,?_⟩
 ·refine⟨[],[some 0,some 1,some 4],?_⟩
  iterate 3 constructor
  refine⟨⟨?_,?_,?_⟩,⟨0,Nat.zero_le _,rfl,rfl,rfl,rfl⟩⟩
  all_goals(repeat' first|exact LF|constructor)
  all_goals first|exact Lz.rfl|exact Lz.of (by simp[g6])
 ·rintro k f1 o1 c1 ⟨i,hi,rfl,rfl,rfl,rfl⟩;refine wh ?_;refine sp ?_ ?_<;>intro aU
  ·have aU:i<bk.length:=fW.1 aU;refine wh ?_;refine⟨⟨om,by rw[List.length_map];omega⟩,?_⟩;refine wh ?_;refine⟨aJ bk[i],by simp[aU],?_⟩;refine wh ?_;refine⟨[],[some 0],_,_,_,_,Gj {s with kn:=so,K:=K',out:=s.out++(if s.p.1.st=2 then g6 s (bk.take i)else [])} hpx,t3,?_⟩;rintro r o' c' ⟨rfl,rfl,rfl⟩;have bj:=True.intro;clear bj;cases hb:decide (s.p.1.st=2)
   ·refine wh ?_;have hb:¬s.p.1.st=2:=of_decide_eq_false hb;refine⟨bk.length - (i+1),?_,om⟩;refine⟨[],[some 0,some 1,some 2],_,_,_,tx ?_,⟨i+1,aU,rfl,rfl,rfl,rfl⟩⟩;exact Lz.of (by rw[if_neg hb,if_neg hb])
   ·refine wh ?_;have hb:s.p.1.st=2:=of_decide_eq_true hb;have YN:=List.getElem_mem aU;refine⟨[],[some 0],_,_,_,_,Vk {s with kn:=so,K:=K',out:=s.out++(if s.p.1.st=2 then g6 s (bk.take i)else [])} bk[i] mH (by have:=hn6 _ YN;omega) (fun n hn=>by have:=h24 _ (Ip _ YN) n hn;show n≠100+s.me;omega) (by have:=hlen i;rw[List.length_append];omega),t3,cw ?_⟩;refine⟨bk.length - (i+1),?_,om⟩;refine⟨[],[some 0,some 1,some 2],_,_,_,tx ?_,⟨i+1,aU,rfl,rfl,rfl,rfl⟩⟩;exact Lz.of (by rw[if_pos hb,if_pos hb,Gk aU,←List.append_assoc,List.map_append (l₁:=s.out++g6 s (bk.take i))])
  ·have aU:¬i<bk.length:=mt fW.2 aU;refine wh ?_;refine⟨[],[some 0],_,_,_,tx ?_,⟨so,wD,rfl,rfl,rfl⟩⟩;exact Lz.of (by rw[List.take_of_length_le (Nat.not_lt.1 aU)])
@[reducible] noncomputable def RS (P:MS→Prop):TV→Ob→Nat→Prop:=fun r o c=>∃s',P s'∧r= .c4 []∧c=1∧o=bz s'
def pU (s:MS) (slot:Int) (c:b8) (s':MS):Prop:=∃so,s'=DJ s slot c so∧XJ s'
theorem dc.outs {s:MS} (H:dc s) (l:List bS):dc {s with out:=l}:=⟨H.me,H.ms,H.px,H.lw,H.qk,H.qc,H.qp,H.kn,H.kK,H.lE,H.nd,H.nc⟩
theorem v7 (s:MS) (H:dc s) (m:bS) (hc:0≤m.cmd.aq) (hl:s.out.length<50000):VC E0 20 1 [.ptr 0 0,.agg (bu {m with kind:=5})] (bz s) (RS (pU s m.slot m.cmd)):=by
 refine en L0 Tryz.f20 ?_;refine rn ?_;refine⟨[],[some 0],_,_,_,_,XK s H {m with kind:=5} hc hl,t3,?_⟩;rintro r o' c' ⟨so,wD,rfl,rfl,rfl⟩;refine wh ?_;exact⟨[],[some 0],_,_,_,t3,⟨_,⟨so,rfl,wD⟩,rfl,rfl,rfl⟩⟩
theorem IZ (s:MS) (H:dc s) (m:bS) (hc:0≤m.cmd.aq) (hl:s.out.length<50000):VC E0 46 1 [.ptr 0 0,.agg (bu {m with kind:=5}),.s (.int .i64 (bF s))] (bz s) (RS (pU s m.slot m.cmd)):=by
 refine en L0 Tryz.f46 ?_;refine⟨[],[some 0],_,_,_,_,c7 s H.me,t3,cw ?_⟩;refine⟨[],[some 0],_,_,_,_,c7 s H.me,t3,cw ?_⟩;refine sp ?_ ?_<;>intro h1;rotate_left
 ·exact absurd rfl h1
 ·refine wh ?_;refine⟨[],[some 0],_,_,_,_,v7 s H {m with ak:=bF s,to:=bF s} hc hl,t3,?_⟩;rintro r o' c' ⟨s',jL,rfl,rfl,rfl⟩;refine wh ?_;exact⟨[],[some 0],_,_,_,t3,⟨_,jL,rfl,rfl,rfl⟩⟩
theorem I1 (s:MS) (H:dc s) (m:bS) (hc:0≤m.cmd.aq) (hl:s.out.length<49000):VC E0 39 1 [.ptr 0 0,.agg (bu {m with kind:=5})] (bz s) (RS (pU (bo s {m with kind:=5}) m.slot m.cmd)):=by
 have mH:=H.me;have gG:=H.ms;refine en L0 Tryz.f39 ?_;refine⟨[],[some 0],_,_,_,_,qy s {m with kind:=5} mH om om,t3,cw ?_⟩;refine⟨[],[some 0],_,_,_,_,c7 (bo s {m with kind:=5}) mH,t3,cw ?_⟩;have hol:=lB s {m with kind:=5} s.ah.toNat
 refine⟨[],[some 0],_,_,_,_,IZ (bo s {m with kind:=5}) (H.outs _) m hc (by rw[List.length_append];omega),t3,?_⟩;rintro r o' c' ⟨s',jL,rfl,rfl,rfl⟩;refine wh ?_;exact⟨[],[some 0],_,_,_,t3,⟨_,jL,rfl,rfl,rfl⟩⟩
theorem pV {c:b8} (h:c.check=0):0≤c.aq:=by
 unfold b8.check yU at h;split at h
 ·cases h
 split at h
 ·split at h
  ·cases h
  ·rename_i h3;omega
 ·split at h
  ·cases h
  ·rename_i h3;omega
theorem vZ.accepted {x:aB} (h:vZ x) (b slot aO:Int):vZ (aC x b slot aO).1∧((aC x b slot aO).2.2=true→(aA (aC x b slot aO).2.1).check=0):=by
 unfold aC;by_cases hg:(x.st=2∧x.b=b)∧1≤aO∧aO≤x.ah
 ·rw[if_pos hg];have gG:=h.ms;have hw:m5 aO:=by unfold m5 at gG ⊢;omega
  cases hq:bH x.eJ slot with
  |none=>exact⟨h,fun e=>by cases e⟩
  |some p=>
   have oI:=(eI h.op.nd).1 hq;have hpe:=h.ev _ oI;have tZ:=h.oc _ oI;have hwe:tu (bZ p.2 [aO]):=la hpe (by simpa using hw);have jR:slot∈aP x.eJ:=List.mem_map.2 ⟨_,oI,rfl⟩;have m7:vZ {x with eJ:=g5 x.eJ slot (p.1,bZ p.2 [aO])}:=by
    refine⟨h.me,h.ms,⟨h.cm.nd,h.cm.k5,h.cm.L9⟩,⟨sc h.op.nd,fun k hk=>?_⟩,fun e he=>?_,fun e he=>?_,h.cv,h.cu,h.b,fun e=>absurd (hg.1.1.symm.trans e) (by decide),h.cf⟩
    ·have hk:k∈aP (g5 x.eJ slot (p.1,bZ p.2 [aO])):=hk;rw[qt,if_pos jR]at hk;exact h.op.pI k hk
    ·rcases(FJ h.op.nd).1 he with rfl |⟨_,q⟩
     ·exact hwe
     ·exact h.ev e q
    ·rcases(FJ h.op.nd).1 he with rfl |⟨_,q⟩
     ·exact tZ
     ·exact h.oc e q
   dsimp only
   split
   ·refine⟨⟨h.me,h.ms,⟨h.cm.nd,h.cm.k5,h.cm.L9⟩,⟨ID m7.op.nd,fun k hk=>?_⟩,fun e he=>m7.ev e (pK.subset he),fun e he=>m7.oc e (pK.subset he),h.cv,h.cu,h.b,fun e=>absurd (hg.1.1.symm.trans e) (by decide),h.cf⟩,fun _=>tZ⟩;obtain⟨e,he,rfl⟩:=List.mem_map.1 hk;exact m7.op.pI _ (List.mem_map.2 ⟨e,pK.subset he,rfl⟩)
   ·exact⟨m7,fun e=>by cases e⟩
 ·rw[if_neg hg];exact⟨h,fun e=>by cases e⟩
theorem vZ.refuse {x:aB} (h:vZ x) (b:Int):vZ (dy x b).1:=by
 unfold dy;split
 ·exact h
 ·exact⟨h.me,h.ms,⟨.nil,by simp[aP],by simp⟩,⟨.nil,by simp[aP]⟩,by simp,by simp,by simp,h.cu,h.b,fun e=>absurd (show(0:Int)=1 from e) (by decide),by simp⟩
theorem vZ.start {x:aB} (h:vZ x) {b ak:Int} (hb:0≤b∧b≤18446744073709551615) (hf:0≤ak∧ak≤512):vZ (mI x.me x.ah b ak):=
 ⟨h.me,h.ms,⟨.nil,by simp[aP],by simp⟩,⟨.nil,by simp[aP]⟩,by simp,by simp,by simp,hf,hb,fun _=>⟨rfl,rfl⟩,by simp⟩
theorem vZ.w6 {x:aB} (h:vZ x) (c:b8):vZ (aI x c).1:=by
 unfold aI;split
 ·exact h
 split
 ·exact h
 split
 ·exact h
 split
 ·exact h
 rename_i h1 h2 h3 h4;have hn:=h.cu;have hnk:x.cu∉aP x.eJ:=fun hm=>by have:=h.op.pI _ hm;omega
 refine⟨h.me,h.ms,⟨h.cm.nd,h.cm.k5,h.cm.L9⟩,h.op.lay hn.1 c,fun e he=>?_,fun e he=>?_,h.cv,by show 0≤x.cu+1∧x.cu+1≤512;omega,h.b,fun e=>absurd ((Classical.not_not.1 h1).symm.trans e) (by decide),h.cf⟩
 ·have he:e∈g5 x.eJ x.cu (c,0):=he;rw[ni hnk]at he;rcases List.mem_append.1 he with q|q
  ·exact h.ev e q
  ·simp at q;subst q;exact(by decide:tu 0)
 ·have he:e∈g5 x.eJ x.cu (c,0):=he;rw[ni hnk]at he;rcases List.mem_append.1 he with q|q
  ·exact h.oc e q
  ·simp at q;subst q;exact Classical.not_not.1 h2
theorem I2 (s:Int) (l:List ai):match fK (fY l) s with
 |none=>∀u∈l,u.slot≠s
 |some v=>v∈l∧v.slot=s∧∀u∈l,u.slot=s→u.ao≤v.ao:=by
 induction l using PR with
 |h0=>simp[fY,fK]
 |h1 l v ih=>
  rw[yV,FU];by_cases hn:s=v.slot
  ·rw[if_pos hn];cases h:fK (fY l) s with
   |none=>
    rw[h]at ih;simp only[better];refine⟨by simp,hn.symm,fun u hu hs=>?_⟩;rcases List.mem_append.1 hu with q|q
    ·exact absurd hs (ih u q)
    ·simp at q;subst q;exact Int.le_refl _
   |some w=>
    rw[h]at ih;obtain⟨i1,i2,i3⟩:=ih;simp only[better];by_cases hb:v.ao>w.ao
    ·rw[if_pos hb];refine⟨by simp,hn.symm,fun u hu hs=>?_⟩;rcases List.mem_append.1 hu with q|q
     ·have:=i3 u q hs;omega
     ·simp at q;subst q;exact Int.le_refl _
    ·rw[if_neg hb];refine⟨List.mem_append_left _ i1,i2,fun u hu hs=>?_⟩;rcases List.mem_append.1 hu with q|q
     ·exact i3 u q hs
     ·simp at q;subst q;omega
  ·rw[if_neg hn];cases h:fK (fY l) s with
   |none=>
    rw[h]at ih;dsimp only at ih ⊢;intro u hu;rcases List.mem_append.1 hu with q|q
    ·exact ih u q
    ·simp at q;subst q;exact fun e=>hn e.symm
   |some w=>
    rw[h]at ih;obtain⟨i1,i2,i3⟩:=ih;dsimp only
    refine⟨List.mem_append_left _ i1,i2,fun u hu hs=>?_⟩;rcases List.mem_append.1 hu with q|q
    ·exact i3 u q hs
    ·simp at q;subst q;exact absurd hs.symm hn
structure abe (x y:aB) (B:List ai):Prop where
 me:y.me=x.me
 ms:y.ah=x.ah
 st:y.st=x.st
 b:y.b=x.b
 ak:y.ak=x.ak
 bk:y.bk=x.bk
 ge:x.cu≤y.cu
 lt:∀v∈B,v.slot<y.cu
 new:∀e∈y.eJ,e∈x.eJ∨(x.cu≤e.1∧e.1<y.cu∧e.2.2=0∧((∃v∈B,v.slot=e.1∧aA v=e.2.1)∨(e.2.1=aF∧∀v∈B,v.slot≠e.1)))
 top:x.cu≤512→(∀v∈B,v.slot<512)→y.cu≤512
theorem Qr:∀(B:List ai) (x:aB),ef x→0≤x.cu→SS B→(∀v∈B,x.cu≤v.slot)→abe x (dq x B) B
 |[],x,_,_,_,_=>⟨rfl,rfl,rfl,rfl,rfl,rfl,Int.le_refl _,by simp,fun e he=>.inl he,fun h _=>h⟩
 |v::B,x,ho,hn,hS,hB=>by
  obtain⟨Xa,Nn⟩:=List.pairwise_cons.1 hS;have hv:=hB v List.mem_cons_self;have e0:dq x (v::B)=dq (gQ (c6 x v.slot) (aA v)) B:=by simp[dq]
  have h1:ef (c6 x v.slot):=ho.iq hn _;have n1:(c6 x v.slot).cu=v.slot:=by unfold c6;rw[lq];omega
  have r1:=BA x (v.slot - x.cu).toNat
  have o1:=FV ho hn (v.slot - x.cu).toNat
  have hk:(c6 x v.slot).cu∉aP (c6 x v.slot).eJ:=fun hm=>by have:=h1.pI _ hm;omega
  have o2:(gQ (c6 x v.slot) (aA v)).eJ=(c6 x v.slot).eJ++[(v.slot,aA v,0)]:=by
   show g5 (c6 x v.slot).eJ (c6 x v.slot).cu (aA v,0)=_;rw[ni hk,n1]
  have n2:(gQ (c6 x v.slot) (aA v)).cu=v.slot+1:=by show(c6 x v.slot).cu+1=_;rw[n1]
  have ih:=Qr B (gQ (c6 x v.slot) (aA v)) (h1.lay om _) om Nn (fun w hw=>by have:=Xa w hw;omega);have r2:(c6 x v.slot).me=x.me∧(c6 x v.slot).ah=x.ah∧(c6 x v.slot).st=x.st∧(c6 x v.slot).b=x.b∧(c6 x v.slot).ak=x.ak∧(c6 x v.slot).bk=x.bk:=by
   unfold c6;rw[r1];exact⟨rfl,rfl,rfl,rfl,rfl,rfl⟩
  rw[e0];generalize dq (gQ (c6 x v.slot) (aA v)) B=y at ih;have xF:=ih.ge;refine⟨ih.me.trans r2.1,ih.ms.trans r2.2.1,ih.st.trans r2.2.2.1,ih.b.trans r2.2.2.2.1,ih.ak.trans r2.2.2.2.2.1,ih.bk.trans r2.2.2.2.2.2,om,fun w hw=>?_,fun e he=>?_,fun h h'=>ih.top (by have:=h' v List.mem_cons_self;omega) fun w hw=>h' w (List.mem_cons_of_mem _ hw)⟩
  ·rcases List.mem_cons.1 hw with rfl |hw
   ·omega
   ·exact ih.lt w hw
  ·rcases ih.new e he with q|⟨q1,q2,q3,q4⟩
   ·rw[o2]at q;rcases List.mem_append.1 q with q|q
    ·have o1:(c6 x v.slot).eJ=_:=o1;rw[o1]at q;rcases List.mem_append.1 q with q|q
     ·exact .inl q
     ·obtain⟨k,hk,rfl⟩:=List.mem_map.1 q;have hk:=List.mem_range.1 hk;right;refine⟨by show x.cu≤x.cu+k;omega,by show x.cu+(k:Int)<y.cu;omega,rfl,.inr ⟨rfl,fun w hw=>?_⟩⟩;show w.slot≠x.cu+(k:Int);rcases List.mem_cons.1 hw with rfl |hw
      ·omega
      ·have:=Xa w hw;omega
    ·simp at q;subst q;right;exact⟨hv,by show v.slot<y.cu;omega,rfl,.inl ⟨v,List.mem_cons_self,rfl,rfl⟩⟩
   ·right;refine⟨om,q2,q3,?_⟩;rcases q4 with⟨w,hw,a,b⟩|⟨a,b⟩
    ·exact .inl ⟨w,List.mem_cons_of_mem _ hw,a,b⟩
    ·refine .inr ⟨a,fun w hw=>?_⟩;rcases List.mem_cons.1 hw with rfl |hw
     ·omega
     ·exact b w hw
theorem Qs {x:aB} (hc:fh x) {v:ai} (hv:v∈ee (fM x)):∃e∈x.bk,v∈e.2:=by
 have gJ:∀l∈fM x,∃e∈x.bk,l=e.2:=fun l hl=>by
  unfold fM at hl;rw[List.mem_map]at hl;obtain⟨w,hw,rfl⟩:=hl;obtain⟨e,he,rfl⟩:=List.mem_map.1 (gq.1 hw);exact⟨e,he,by rw[(eI hc.nd).2 (show(e.1,e.2)∈x.bk from he)];rfl⟩
 have ad3:∀l∈fM x,∀v∈l,vR v.slot:=fun l hl v hv=>by
  obtain⟨e,he,rfl⟩:=gJ l hl;exact((hc.L9 e he).2 v hv).1
 have h1:=(Md ad3).1 hv;have h2:=I2 v.slot (fM x).flatten;rw[h1]at h2;obtain⟨l,hl,Rp⟩:=List.mem_flatten.1 h2.1;obtain⟨e,he,rfl⟩:=gJ l hl;exact⟨e,he,Rp⟩
theorem TX {x:aB} (hc:fh x):SS (ee (fM x)):=by
 refine PS fun l hl v hv=>?_;unfold fM at hl;rw[List.mem_map]at hl;obtain⟨w,hw,rfl⟩:=hl;obtain⟨e,he,rfl⟩:=List.mem_map.1 (gq.1 hw);rw[(eI hc.nd).2 (show(e.1,e.2)∈x.bk from he)]at hv;exact((hc.L9 e he).2 v hv).1
theorem vZ.promise {x:aB} (h:vZ x) (b aO:Int) (vs:List ai) (hl:vs.length≤600) (hv:∀v∈vs,vR v.slot) (VS:∀v∈vs,(aA v).check=0):
 vZ (bR x b aO vs).1∧∀v∈(bR x b aO vs).2.1,(aA v).check=0:=by
 unfold bR;by_cases hg:(x.st=1∧x.b=b)∧1≤aO∧aO≤x.ah
 ·rw[if_pos hg];have gG:=h.ms;have hw:m5 aO:=by unfold m5 at gG ⊢;omega
  obtain⟨tZ,agI⟩:=FM h.cm hw hl hv;obtain⟨UG,YT⟩:=h.s1 hg.1.1;have BJ:∀e∈(bQ x aO vs).bk,∀v∈e.2,(aA v).check=0∧x.ak≤v.slot:=fun e he v y5=>by
   have he:e∈(if aO∈aP x.bk then x.bk else x.bk++[(aO,yX x.ak vs)]):=he;split at he
   ·exact⟨h.cv e he v y5,h.cf e he v y5⟩
   ·rcases List.mem_append.1 he with q|q
    ·exact⟨h.cv e q v y5,h.cf e q v y5⟩
    ·simp at q;subst q;have y5:v∈vs.filter fun v=> !(se x.ak v):=y5;rw[List.mem_filter,PQ]at y5;exact⟨VS v y5.1,y5.2.1⟩
  have hL1:vZ (bQ x aO vs):=⟨h.me,h.ms,tZ,⟨h.op.nd,h.op.pI⟩,h.ev,h.oc,fun e he v y5=>(BJ e he v y5).1,h.cu,h.b,h.s1,fun e he v y5=>(BJ e he v y5).2⟩;by_cases hen:l6 (bZ 0 (aP (bQ x aO vs).bk)) x.ah=true
  ·rw[if_pos hen];dsimp only
   generalize SA:({bQ x aO vs with st:=2}:aB)=x2;have e2:x2.me=x.me∧x2.ah=x.ah∧x2.b=x.b∧x2.ak=x.ak∧x2.cu=x.cu∧x2.eJ=x.eJ∧x2.st=2∧x2.bk=(bQ x aO vs).bk:=by
    subst SA;exact⟨rfl,rfl,rfl,rfl,rfl,rfl,rfl,rfl⟩
   obtain⟨z1,z2,z3,z4,z5,z6,z7,z8⟩:=e2;have rD:fh x2:=by subst SA;exact⟨tZ.nd,tZ.k5,tZ.L9⟩
   have Vl:ef x2:=by subst SA;exact⟨h.op.nd,h.op.pI⟩
   have ny:∀v∈ee (fM x2),(aA v).check=0∧x.ak≤v.slot∧v.slot<512:=fun v hv=>by
    obtain⟨e,he,y5⟩:=Qs rD hv;have Nf:=he;rw[z8]at Nf;exact⟨(BJ e Nf v y5).1,(BJ e Nf v y5).2,((rD.L9 e he).2 v y5).2⟩
   have hF:=Qr (ee (fM x2)) x2 Vl (by have:=h.cu;omega) (TX rD) (fun v hv=>by have:=(ny v hv).2.1;omega);have hO:=(Vl.fill (by have:=h.cu;omega) (ee (fM x2))).1;generalize dq x2 (ee (fM x2))=y at hF hO;have hyc:∀e∈y.eJ,e.2.2=0∧e.2.1.check=0:=fun e he=>by
    rcases hF.new e he with q|⟨_,_,q3,q4⟩
    ·rw[z6,YT]at q;cases q
    ·refine⟨q3,?_⟩;rcases q4 with⟨v,hv,q5,q6⟩|⟨q5,_⟩
     ·rw[←q6];exact(ny v hv).1
     ·rw[q5];rfl
   refine⟨⟨by rw[hF.me,z1];exact h.me,by rw[hF.ms,z2];exact h.ms,⟨by rw[hF.bk];exact rD.nd,by rw[hF.bk];exact rD.k5,by rw[hF.bk];exact rD.L9⟩,hO,fun e he=>by rw[(hyc e he).1];decide,fun e he=>(hyc e he).2,fun e he v y5=>?_,⟨by have:=hF.ge;have:=h.cu;omega,hF.top (by have:=h.cu;omega) fun v hv=>(ny v hv).2.2⟩,by rw[hF.b,z3];exact h.b,fun e=>?_,fun e he v y5=>?_⟩,fun v hv=>?_⟩
   ·rw[hF.bk,z8]at he;exact(BJ e he v y5).1
   ·rw[hF.st,z7]at e;exact absurd e (by decide)
   ·rw[hF.bk,z8]at he;rw[hF.ak,z4];exact(BJ e he v y5).2
   ·unfold bf at hv;rw[List.mem_map]at hv;obtain⟨w,hw,rfl⟩:=hv;obtain⟨e,he,rfl⟩:=List.mem_map.1 (gq.1 hw);unfold nj;rw[(eI hO.nd).2 (show(e.1,e.2)∈y.eJ from he),FW];exact(hyc e he).2
  ·rw[if_neg hen];exact⟨hL1,by simp⟩
 ·rw[if_neg hg];exact⟨h,by simp⟩
theorem PX.bw {p:aB×Bool} (h:PX p) {x:aB} (hx:∀me ms,p.1=mL me ms→x=mL me ms):PX (x,p.2):=fun e=>by
 obtain⟨me,ms,h⟩:=h e;exact⟨me,ms,hx me ms h⟩
theorem dc.lead {s:MS} (H:dc s) {x:aB} (hx:vZ x) (hp:PX (x,s.p.2)):dc {s with p:=(x,s.p.2)}:=⟨H.me,H.ms,hp,hx,H.qk,H.qc,H.qp,H.kn,H.kK,H.lE,H.nd,H.nc⟩
theorem Gl (me ms b slot aO:Int):aC (mL me ms) b slot aO=(mL me ms,cZ,false):=by
 unfold aC;rw[if_neg fun h=>absurd (show(0:Int)=2 from h.1.1) (by decide)]
theorem MA (me ms b:Int):dy (mL me ms) b=(mL me ms,false):=by unfold dy;rw[if_pos (.inl rfl)]
theorem I3 (me ms b aO:Int) (vs:List ai):bR (mL me ms) b aO vs=(mL me ms,[],false):=by unfold bR;rw[if_neg fun h=>absurd (show(0:Int)=1 from h.1.1) (by decide)]
theorem I4 (me ms:Int) (c:b8):aI (mL me ms) c=(mL me ms,cZ,12):=by unfold aI;rw[if_pos (show(0:Int)≠2 by decide)]
theorem dc.accepted {s:MS} (H:dc s) (b slot aO:Int):dc {s with p:=((aC s.p.1 b slot aO).1,s.p.2)}:=
 H.lead (H.lw.accepted b slot aO).1 (H.px.bw fun me ms e=>by rw[e,Gl])
theorem dc.refuse {s:MS} (H:dc s) (b:Int):dc {s with p:=((dy s.p.1 b).1,s.p.2)}:=
 H.lead (H.lw.refuse b) (H.px.bw fun me ms e=>by rw[e,MA])
theorem dc.promise {s:MS} (H:dc s) (b aO:Int) (vs:List ai) (hl:vs.length≤600) (hv:∀v∈vs,vR v.slot) (VS:∀v∈vs,(aA v).check=0):dc {s with p:=((bR s.p.1 b aO vs).1,s.p.2)}:=
 H.lead (H.lw.promise b aO vs hl hv VS).1 (H.px.bw fun me ms e=>by rw[e,I3])
theorem dc.w6 {s:MS} (H:dc s) (c:b8):dc {s with p:=((aI s.p.1 c).1,s.p.2)}:=
 H.lead (H.lw.w6 c) (H.px.bw fun me ms e=>by rw[e,I4])
@[reducible] def I5 (s:MS) (b slot aO:Int):MS:={s with p:=((aC s.p.1 b slot aO).1,s.p.2)}
def zj (s:MS) (b slot aO:Int) (s':MS):Prop:=
 if(aC s.p.1 b slot aO).2.2=true then pU (bo (I5 s b slot aO) (oq (aC s.p.1 b slot aO).2.1.slot (aA (aC s.p.1 b slot aO).2.1))) (aC s.p.1 b slot aO).2.1.slot (aA (aC s.p.1 b slot aO).2.1) s'
 else s'=I5 s b slot aO
theorem TY {s:MS} {b slot aO:Int} (h:(aC s.p.1 b slot aO).2.2=false):zj s b slot aO (I5 s b slot aO):=by
 unfold zj;rw[if_neg (by rw[h];decide)]
theorem Qt {s s':MS} {b slot aO:Int} (h:(aC s.p.1 b slot aO).2.2=true) (hL:pU (bo (I5 s b slot aO) (oq (aC s.p.1 b slot aO).2.1.slot (aA (aC s.p.1 b slot aO).2.1))) (aC s.p.1 b slot aO).2.1.slot (aA (aC s.p.1 b slot aO).2.1) s'):zj s b slot aO s':=by
 unfold zj;rw[if_pos h];exact hL
theorem ri (s:MS) (H:dc s) (m:bS) (hf:100<m.ak∧m.ak≤105) (hl:s.out.length<48000):VC E0 20 1 [.ptr 0 0,.agg (bu {m with kind:=4})] (bz s) (RS (zj s m.ao m.slot (m.ak - 100))):=by
 have hw:IntKind.i64.wrap (m.ak - 100)=m.ak - 100:=IntWalk.i64_in _ om;have H1:=H.accepted m.ao m.slot (m.ak - 100);have rG:=(H.lw.accepted m.ao m.slot (m.ak - 100)).2;obtain⟨me,ms,nodes,eC,aK,quiet,waited,q,kn,K,l,⟨x,f⟩,out⟩:=s;cases f
 all_goals
  refine en L0 Tryz.f20 ?_;refine rn ?_;rw[hw];refine⟨[],[some 2],_,_,_,_,Ds (x,_) H.px m.ao m.slot (m.ak - 100) H.lw.ms H.lw.ev H.lw.op.nd,t3,?_⟩;rintro r o' c' ⟨rfl,rfl,rfl⟩;have bj:=True.intro;clear bj;cases hb:(aC x m.ao m.slot (m.ak - 100)).2.2
  ·refine wh ?_;exact⟨[],[some 0],_,_,_,t3,⟨_,TY hb,rfl,rfl,rfl⟩⟩
  ·refine wh ?_;refine⟨[],[some 0],_,_,_,_,I1 _ H1 (oq (aC x m.ao m.slot (m.ak - 100)).2.1.slot (aA (aC x m.ao m.slot (m.ak - 100)).2.1)) (pV (rG hb)) (by show out.length<49000;exact Nat.lt_of_lt_of_le hl (by decide)),t3,?_⟩;rintro r o' c' ⟨s',jL,rfl,rfl,rfl⟩;refine wh ?_;exact⟨[],[some 0],_,_,_,t3,⟨_,Qt hb jL,rfl,rfl,rfl⟩⟩
@[reducible] def w7 (b:Int):bS:=⟨8,0,0,b,0,aF,aS,[]⟩
@[reducible] def eD (s:MS) (b:Int):MS:={s with p:=((dy s.p.1 b).1,s.p.2)}
def qL (s:MS) (to:Int):MS:=if to=bF s then eD s s.q.1 else DI s (w7 s.q.1) to
def zk (s:MS) (b slot to:Int) (m:bS) (s':MS):Prop:=if to=bF s then zj s b slot s.me s' else s'=DI s m to
theorem DK (s:MS) (H:dc s) (m:bS) (to:Int) (hl:s.out.length<48000):VC E0 46 1 [.ptr 0 0,.agg (bu {m with kind:=4}),.s (.int .i64 to)] (bz s) (RS (zk s m.ao m.slot to {m with kind:=4})):=by
 unfold zk;have mH:=H.me;by_cases h:to=bF s
 ·subst h;simp only[if_true];have e:bF s - 100=s.me:=by show 100+s.me - 100=s.me;omega
  have gg:=ri s H {m with ak:=bF s,to:=bF s} (by show 100<100+s.me∧100+s.me≤105;omega) hl;dsimp only at gg;rw[e]at gg;refine en L0 Tryz.f46 ?_;refine⟨[],[some 0],_,_,_,_,c7 s mH,t3,cw ?_⟩;refine⟨[],[some 0],_,_,_,_,c7 s mH,t3,cw ?_⟩;refine sp ?_ ?_<;>intro h1;rotate_left
  ·exact absurd rfl h1
  ·refine wh ?_;refine⟨[],[some 0],_,_,_,_,gg,t3,?_⟩;rintro r o' c' ⟨s',jL,rfl,rfl,rfl⟩;refine wh ?_;exact⟨[],[some 0],_,_,_,t3,⟨_,jL,rfl,rfl,rfl⟩⟩
 ·simp only[if_neg h];refine VC.told (vY s {m with kind:=4} to mH h om) ?_;rintro r o' c' ⟨rfl,rfl,rfl⟩;exact⟨[],[some 0],_,_,_,t3,⟨_,rfl,rfl,rfl,rfl⟩⟩
theorem v8 (s:MS) (H:dc s) (m:bS):VC E0 20 1 [.ptr 0 0,.agg (bu {m with kind:=8})] (bz s) (RR (.c4 []) 1 (bz (eD s m.ao))):=by
 obtain⟨me,ms,nodes,eC,aK,quiet,waited,q,kn,K,l,⟨x,f⟩,out⟩:=s;cases f
 all_goals
  refine en L0 Tryz.f20 ?_;refine rn ?_;refine⟨[],[some 2],_,_,_,_,lr (x,_) H.px m.ao,t3,cw ?_⟩;exact⟨[],[some 0],_,_,_,t3,rfl,rfl,rfl⟩
theorem I6 (s:MS) (H:dc s) (to:Int) (hl:s.out.length<48000):VC E0 46 1 [.ptr 0 0,.agg (bu (w7 s.q.1)),.s (.int .i64 to)] (bz s) (RR (.c4 []) 1 (bz (qL s to))):=by
 unfold qL;have mH:=H.me;by_cases h:to=bF s
 ·subst h;simp only[if_true];refine en L0 Tryz.f46 ?_;refine⟨[],[some 0],_,_,_,_,c7 s mH,t3,cw ?_⟩;refine⟨[],[some 0],_,_,_,_,c7 s mH,t3,cw ?_⟩;refine sp ?_ ?_<;>intro h1;rotate_left
  ·exact absurd rfl h1
  ·refine wh ?_;refine⟨[],[some 0],_,_,_,_,v8 s H {w7 s.q.1 with ak:=bF s,to:=bF s},t3,cw ?_⟩;exact⟨[],[some 0],_,_,_,t3,rfl,rfl,rfl⟩
 ·simp only[if_neg h];exact vY s (w7 s.q.1) to mH h om
theorem DL (s:MS) (H:dc s) (m:bS) (hl:s.out.length<48000):VC E0 82 1 [.ptr 0 0,.agg (bu m)] (bz s) (RR (.c4 []) 1 (bz (qL s m.ak))):=by
 refine en L0 Tryz.f82 ?_;refine⟨[],[some 2],_,_,_,_,gy s.q,t3,cw ?_⟩;refine⟨[],[some 0],_,_,_,_,I6 s H m.ak hl,t3,cw ?_⟩;exact⟨[],[some 0],_,_,_,t3,rfl,rfl,rfl⟩
theorem dc.zl {s:MS} (H:dc s):dc {s with quiet:=0}:=⟨H.me,H.ms,H.px,H.lw,H.qk,H.qc,H.qp,H.kn,H.kK,H.lE,H.nd,H.nc⟩
@[reducible] def qz (b slot:Int):bS:=⟨4,0,0,b,slot,aF,aS,[]⟩
def zm (s:MS) (b slot to e:Int) (s':MS):Prop:=
 if e=0 then zk {s with quiet:=0} b slot to (qz b slot) s' else if e=10 then s'=qL s to else s'=s
theorem Qu (s:MS) (H:dc s) (m:bS) (b slot e:Int) (hl:s.out.length<48000):VC E0 84 1 [.ptr 0 0,.agg (bu m),.s (.int .i64 e),.agg (bu (qz b slot))] (bz s) (RS (zm s b slot m.ak e)):=by
 unfold zm;refine en L0 Tryz.f84 ?_;refine sp ?_ ?_<;>intro h1
 ·have h1:e=0:=h1;subst h1;simp only[if_true];refine wh ?_;refine⟨[],[some 0],_,_,_,_,DK {s with quiet:=0} H.zl (qz b slot) m.ak hl,t3,?_⟩;rintro r o' c' ⟨s',jL,rfl,rfl,rfl⟩;refine wh ?_;exact⟨[],[some 0],_,_,_,t3,⟨_,jL,rfl,rfl,rfl⟩⟩
 ·have h1:¬e=0:=h1;simp only[if_neg h1];refine wh ?_;refine sp ?_ ?_<;>intro h2
  ·have h2:e=10:=h2;simp only[if_pos h2];refine wh ?_;refine⟨[],[some 0],_,_,_,_,DL s H m hl,t3,cw ?_⟩;exact⟨[],[some 0],_,_,_,t3,⟨_,rfl,rfl,rfl,rfl⟩⟩
  ·have h2:¬e=10:=h2;simp only[if_neg h2];refine wh ?_;exact⟨[],[some 0],_,_,_,t3,⟨_,rfl,rfl,rfl,rfl⟩⟩
theorem dc.acc {s:MS} (H:dc s) {b:Int} (hb:0≤b∧b≤18446744073709551615) (slot:Int) (c:b8):dc {s with q:=((fA s.q.1 s.q.2 b slot c).1,(fA s.q.1 s.q.2 b slot c).2.1)}:=by
 refine⟨H.me,H.ms,H.px,H.lw,(Ts H.qk).1,?_,?_,H.kn,H.kK,H.lE,H.nd,H.nc⟩
 ·show∀e∈(fA s.q.1 s.q.2 b slot c).2.1,(aA e.2).check=0;unfold fA;split
  ·exact H.qc
  split
  ·exact H.qc
  split
  ·exact H.qc
  rename_i h1 h2 h3;intro e he;rcases(iG H.qk.mv.nd).1 he with rfl |⟨_,q⟩
  ·show(aA (.of slot b c)).check=0;rw[FW];exact Classical.not_not.1 h2
  ·exact H.qc e q
 ·show 0≤(fA s.q.1 s.q.2 b slot c).1∧(fA s.q.1 s.q.2 b slot c).1≤18446744073709551615;unfold fA;split
  ·exact H.qp
  split
  ·exact H.qp
  split
  ·exact H.qp
  exact hb
@[reducible] def XL (s:MS) (b slot:Int) (c:b8):MS:={s with q:=((fA s.q.1 s.q.2 b slot c).1,(fA s.q.1 s.q.2 b slot c).2.1)}
def jB (s:MS) (b slot:Int) (c:b8) (ak:Int) (s':MS):Prop:=
 zm (XL (eD s b) b slot c) b slot ak (fA s.q.1 s.q.2 b slot c).2.2 s'
theorem DM (s:MS) (H:dc s) (m:bS) (hb:0≤m.ao∧m.ao≤18446744073709551615) (hl:s.out.length<48000):VC E0 36 1 [.ptr 0 0,.agg (bu {m with kind:=3})] (bz s) (RS (jB s m.ao m.slot m.cmd m.ak)):=by
 have H1:=(H.refuse m.ao).acc hb m.slot m.cmd;obtain⟨me,ms,nodes,eC,aK,quiet,waited,q,kn,K,l,⟨x,f⟩,out⟩:=s;cases f
 all_goals
  refine en L0 Tryz.f36 ?_;refine rn ?_;refine⟨[],[some 2],_,_,_,_,lr (x,_) H.px m.ao,t3,cw ?_⟩;refine rn ?_;refine⟨[],[some 4],_,_,_,_,IN q m.ao m.slot m.cmd,t3,cw ?_⟩;refine⟨[],[some 0],_,_,_,_,Qu _ H1 {m with kind:=3} m.ao m.slot (fA q.1 q.2 m.ao m.slot m.cmd).2.2 hl,t3,?_⟩;rintro r o' c' ⟨s',jL,rfl,rfl,rfl⟩;refine wh ?_;exact⟨[],[some 0],_,_,_,t3,⟨_,jL,rfl,rfl,rfl⟩⟩
theorem wa (s:MS) (H:dc s) (m:bS) (hb:0≤m.ao∧m.ao≤18446744073709551615) (hl:s.out.length<48000):VC E0 20 1 [.ptr 0 0,.agg (bu {m with kind:=3})] (bz s) (RS (jB s m.ao m.slot m.cmd m.ak)):=by
 refine en L0 Tryz.f20 ?_;refine rn ?_;refine⟨[],[some 0],_,_,_,_,DM s H m hb hl,t3,?_⟩;rintro r o' c' ⟨s',jL,rfl,rfl,rfl⟩;refine wh ?_;exact⟨[],[some 0],_,_,_,t3,⟨_,jL,rfl,rfl,rfl⟩⟩
theorem I7 (s:MS) (H:dc s) (m:bS) (hb:0≤m.ao∧m.ao≤18446744073709551615) (hl:s.out.length<48000):VC E0 46 1 [.ptr 0 0,.agg (bu {m with kind:=3}),.s (.int .i64 (bF s))] (bz s) (RS (jB s m.ao m.slot m.cmd (bF s))):=by
 have mH:=H.me;refine en L0 Tryz.f46 ?_;refine⟨[],[some 0],_,_,_,_,c7 s mH,t3,cw ?_⟩;refine⟨[],[some 0],_,_,_,_,c7 s mH,t3,cw ?_⟩;refine sp ?_ ?_<;>intro h1;rotate_left
 ·exact absurd rfl h1
 ·refine wh ?_;refine⟨[],[some 0],_,_,_,_,wa s H {m with ak:=bF s,to:=bF s} hb hl,t3,?_⟩;rintro r o' c' ⟨s',jL,rfl,rfl,rfl⟩;refine wh ?_;exact⟨[],[some 0],_,_,_,t3,⟨_,jL,rfl,rfl,rfl⟩⟩
@[reducible] def jC (v:ai):bS:=⟨3,0,0,v.ao,v.slot,aA v,aS,[]⟩
theorem I8 (s:MS) (H:dc s) (m:bS) (hb:0≤m.ao∧m.ao≤18446744073709551615) (hl:s.out.length<47000):VC E0 39 1 [.ptr 0 0,.agg (bu {m with kind:=3})] (bz s) (RS (jB (bo s {m with kind:=3}) m.ao m.slot m.cmd (bF s))):=by
 have mH:=H.me;have gG:=H.ms;refine en L0 Tryz.f39 ?_;refine⟨[],[some 0],_,_,_,_,qy s {m with kind:=3} mH om om,t3,cw ?_⟩;refine⟨[],[some 0],_,_,_,_,c7 (bo s {m with kind:=3}) mH,t3,cw ?_⟩;have hol:=lB s {m with kind:=3} s.ah.toNat
 refine⟨[],[some 0],_,_,_,_,I7 (bo s {m with kind:=3}) (H.outs _) m hb (by rw[List.length_append];omega),t3,?_⟩;rintro r o' c' ⟨s',jL,rfl,rfl,rfl⟩;refine wh ?_;exact⟨[],[some 0],_,_,_,t3,⟨_,jL,rfl,rfl,rfl⟩⟩
theorem TZ {l:List CF} {c:b8} (h:iI l c=0) (hk:c.kind≠0):kA l∧c.check=0∧∃aU:c.chain.toNat<l.length,iQ l l[c.chain.toNat] c.kind c.node=0:=by
 obtain⟨ha,rG,aU,_⟩:=DB h hk;refine⟨ha,rG,aU,?_⟩;unfold iI at h;rw[if_neg (fun q=>q ha),if_neg (fun q=>q rG),if_neg hk,List.getElem?_eq_getElem aU]at h;dsimp only at h;by_cases he:l[c.chain.toNat].aq≠c.aq
 ·rw[if_pos he]at h;exact absurd h (by decide)
 ·rw[if_neg he,Dw (kB ha (List.getElem_mem aU))]at h;by_cases hz:iQ l l[c.chain.toNat] c.kind c.node≠0
  ·rw[if_pos hz]at h;exact absurd h hz
  ·exact Classical.not_not.1 hz
theorem sj {l l':List Int} (h:fL l) (hs:l'.Sublist l):fL l':=⟨h.1.sublist hs,fun n hn=>h.2 n (hs.subset hn)⟩
theorem zn {l:List CF} {i:Nat} (hi:i<l.length) (y:CF):gz (l.set i y)=gz (l.take i)++(aG y++gz (l.drop (i+1))):=by
 unfold gz;rw[List.set_eq_take_append_cons_drop,if_pos hi,List.flatMap_append,List.flatMap_cons]
theorem Kr {l:List CF} {i:Nat} (hi:i<l.length):gz l=gz (l.take i)++(aG l[i]++gz (l.drop (i+1))):=by
 have:=zn hi l[i]
 rwa [List.set_getElem_self hi]at this
theorem Qv {l:List CF} {i:Nat} (h:kA l) (hi:i<l.length) {y:CF} (hc:y.chain=l[i].chain) (hr:jh y) (hu:fL (gz (l.set i y))):kA (l.set i y):=by
 refine⟨by rw[List.length_set];exact h.1,fun j hj=>?_,hu⟩;rw[List.length_set]at hj;rw[List.getElem_set];split
 ·rename_i e;subst e;exact⟨hc.trans (h.2.1 i hi).1,hr⟩
 ·exact h.2.1 j hj
theorem Qw {l:List CF} {i:Nat} (h:kA l) (hi:i<l.length) {y:CF} (hs:(aG y).Sublist (aG l[i])):fL (gz (l.set i y)):=by
 refine sj h.2.2 ?_;rw[zn hi,Kr hi];exact(List.Sublist.refl _).append (hs.append (List.Sublist.refl _))
theorem MB {l:List CF} {c:b8} (h:kA l) (hk:c.kind≠0) (rG:c.check=0) (hi:c.chain.toNat<l.length) (hK:iQ l l[c.chain.toNat] c.kind c.node=0):kA (l.set c.chain.toNat (kg l[c.chain.toNat] c.kind c.node)):=by
 have mw:=np rG hk;generalize c.chain.toNat=i at hi hK ⊢;have hx:=(h.2.1 i hi).2;have bN:∀y,aG y=y.nodes++(if y.join=0 then []else [y.join]):=fun _=>rfl;have pj:=Gi l[i] c.kind c.node;obtain⟨r1,r2,r3,r4,r5⟩:=hx;have xn:=Kr hi;have nT:=fun {y:CF}=>Qw h hi (y:=y);generalize LG:l[i]=x at*
 unfold iQ at hK;refine Qv h hi (by rw[LG];exact pj.2) ?_ ?_
 ·-- it may be
  refine⟨by rw[pj.2];exact r1,by rw[pj.1];omega,?_⟩;unfold kg;by_cases k1:c.kind=1
  ·rw[if_pos k1]at hK ⊢;split at hK
   ·cases hK
   split at hK
   ·cases hK
   rename_i a b;have b:(eB x).any (ji c.node)=true:=by simpa using b
   obtain⟨m,hm,UU⟩:=List.any_eq_true.1 b;have UU:m≠c.node:=of_decide_eq_true UU;by_cases hj:x.join=c.node
   ·rw[if_pos hj];refine⟨r3,fun hf=>?_,sj r5 ?_⟩
    ·exact⟨(r4 hf).1,rfl⟩
    ·rw[bN,bN];simp
   ·rw[if_neg hj];have hmN:m∈x.nodes:=by
     unfold eB at hm;split at hm
     ·exact List.mem_of_mem_take hm
     ·exact hm
    have Cl:1≤(b5 x.nodes c.node).length:=List.length_pos_of_mem (List.mem_filter.2 ⟨hmN,by simpa using UU⟩);have hle:(b5 x.nodes c.node).length≤x.nodes.length:=List.length_filter_le _ _;refine⟨⟨Cl,Nat.le_trans hle r3.2⟩,fun hf=>?_,sj r5 ?_⟩
    ·have hf:(x.fresh&&decide (ij x≠c.node))=true:=hf;rw[Bool.and_eq_true,decide_eq_true_iff]at hf;obtain⟨f1,f2⟩:=hf;obtain⟨q1,q2⟩:=r4 f1;refine⟨?_,q2⟩;show 2≤(b5 x.nodes c.node).length;have bD:x.nodes≠[]:=fun e=>by rw[e]at q1;simp at q1
     have uv:x.nodes=x.nodes.take (x.nodes.length - 1)++[ij x]:=by
      have h1:=(List.dropLast_concat_getLast bD).symm;unfold ij;rw[List.getLast?_eq_some_getLast bD,Option.getD_some,←List.dropLast_eq_take];exact h1
     have hm2:m∈x.nodes.take (x.nodes.length - 1):=by
      unfold eB at hm;rw[if_pos f1]at hm;exact hm
     unfold b5;rw[uv,List.filter_append,List.length_append];have g1:1≤((x.nodes.take (x.nodes.length - 1)).filter fun x=>decide (x≠c.node)).length:=List.length_pos_of_mem (List.mem_filter.2 ⟨hm2,by simpa using UU⟩);have g2:([ij x].filter fun x=>decide (x≠c.node))=[ij x]:=by simp[f2]
     rw[g2];simp only[List.length_cons,List.length_nil];omega
    ·rw[bN,bN];exact(List.filter_sublist).append (List.Sublist.refl _)
  rw[if_neg k1]at hK ⊢;by_cases k2:c.kind=2
  ·rw[if_pos k2]at hK ⊢;split at hK
   ·cases hK
   split at hK
   ·cases hK
   split at hK
   ·cases hK
   rename_i a b d;have hj:x.join=0:=by omega
   have hff:x.fresh=false:=by
    cases hq:x.fresh with
    |true=>exact absurd (.inr hq) b
    |false=>rfl
   refine⟨r3,fun hf=>?_,?_⟩
   ·have hf:x.fresh=true:=hf;rw[hff]at hf;cases hf
   ·have hn:c.node∉x.nodes:=fun hn=>a (by rw[xn,bN];simp[hn]);rw[bN]at r5 ⊢;rw[if_pos hj,List.append_nil]at r5;rw[if_neg (show¬c.node=0 by omega)];exact⟨List.nodup_append.2 ⟨r5.1,by simp,fun u hu v hv=>by simp at hv;subst hv;exact fun e=>hn (e▸hu)⟩,fun u hu=>by
     rcases List.mem_append.1 hu with q|q
     ·exact r5.2 u q
     ·simp at q;subst q;exact mw.2.2.2.2⟩
  rw[if_neg k2]at hK ⊢;by_cases k3:c.kind=3
  ·rw[if_pos k3]at hK ⊢;split at hK
   ·cases hK
   split at hK
   ·cases hK
   rename_i a b;have hj:x.join=c.node:=Classical.not_not.1 a;refine⟨by simp;omega,fun _=>⟨by simp;omega,rfl⟩,?_⟩;rw[bN]at r5 ⊢;rw[if_neg om,hj]at r5;simpa using r5
  ·rw[if_neg k3];exact⟨r3,(fun hf=>by cases hf),r5⟩
 ·-- none stands twice
  unfold kg;by_cases k1:c.kind=1
  ·rw[if_pos k1];by_cases hj:x.join=c.node
   ·rw[if_pos hj];refine nT ?_;rw[bN,bN];simp
   ·rw[if_neg hj];refine nT ?_;rw[bN,bN];exact(List.filter_sublist).append (List.Sublist.refl _)
  rw[if_neg k1]at hK ⊢;by_cases k2:c.kind=2
  ·rw[if_pos k2]at hK ⊢;split at hK
   ·cases hK
   split at hK
   ·cases hK
   rename_i a b;have hj:x.join=0:=by omega
   have hu:=h.2.2;rw[zn hi,bN];rw[xn,bN,if_pos hj,List.append_nil]at hu;rw[xn,bN,if_pos hj,List.append_nil]at a;rw[if_neg (show¬c.node=0 by omega)];have hp:(gz (l.take i)++(x.nodes++[c.node]++gz (l.drop (i+1)))).Perm (c.node::(gz (l.take i)++(x.nodes++gz (l.drop (i+1))))):=by
    have:gz (l.take i)++(x.nodes++[c.node]++gz (l.drop (i+1)))=(gz (l.take i)++x.nodes)++(c.node::gz (l.drop (i+1))):=by simp
    rw[this];refine List.perm_middle.trans ?_;rw[List.append_assoc]
   exact⟨hp.symm.nodup (List.nodup_cons.2 ⟨a,hu.1⟩),fun n hn=>by
    rcases List.mem_cons.1 (hp.subset hn)with rfl |q
    ·exact mw.2.2.2.2
    ·exact hu.2 n q⟩
  rw[if_neg k2]at hK ⊢;by_cases k3:c.kind=3
  ·rw[if_pos k3]at hK ⊢;split at hK
   ·cases hK
   rename_i a;have hj:x.join=c.node:=Classical.not_not.1 a;refine nT ?_;rw[bN,bN,if_neg (show¬x.join=0 by omega),hj];simp
  ·rw[if_neg k3];exact nT (List.Sublist.refl _)
theorem Ks {l:List CF} (h:kA l) (c:b8):kA (kH l c).1:=by
 unfold kH;by_cases hc:iI l c≠0
 ·rw[if_pos hc];exact h
 ·rw[if_neg hc];by_cases hk:c.kind=0
  ·rw[if_pos hk];exact h
  ·rw[if_neg hk];obtain⟨_,rG,aU,hK⟩:=TZ (Classical.not_not.1 hc) hk;rw[List.getElem?_eq_getElem aU];exact MB h hk rG aU hK
theorem u9 {l:List CF} (h:kA l) (K:List ai):∀n,kA (a8 K l n).2
 |0=>h
 |n+1=>by
  have ih:=u9 h K n;unfold a8;cases K[n]? with
  |none=>exact ih
  |some v=>exact Ks ih _
def nq (a b:List CF):Prop:=a.length=b.length∧∀(i:Nat) x y,a[i]? =some x→b[i]? =some y→x.aq≤y.aq∧(x.aq=y.aq→x=y)
theorem nq.refl (a:List CF):nq a a:=⟨rfl,fun i x y h k=>by rw[h]at k;cases k;exact⟨Int.le_refl _,fun _=>rfl⟩⟩
theorem nq.trans {a b c:List CF} (h:nq a b) (k:nq b c):nq a c:=by
 refine⟨h.1.trans k.1,fun i x z hx hz=>?_⟩;have hi:i<b.length:=by have:=(List.getElem?_eq_some_iff.1 hx).1;have:=h.1;omega
 obtain⟨h1,h2⟩:=h.2 i x b[i] hx (List.getElem?_eq_getElem hi);obtain⟨k1,k2⟩:=k.2 i b[i] z (List.getElem?_eq_getElem hi) hz;exact⟨om,fun e=>(h2 om).trans (k2 om)⟩
theorem T1 (l:List CF) (c:b8):nq l (kH l c).1:=by
 unfold kH;split
 ·exact .refl l
 split
 ·exact .refl l
 split
 ·exact .refl l
 ·rename_i x hx;obtain⟨hi,hx⟩:=List.getElem?_eq_some_iff.1 hx;refine⟨by rw[List.length_set],fun j y z hy hz=>?_⟩;by_cases e:c.chain.toNat=j
  ·subst e;rw[List.getElem?_set_self hi]at hz;rw[List.getElem?_eq_getElem hi]at hy;cases hy;cases hz;have:=(Gi x c.kind c.node).1;rw[hx];exact⟨om,fun e=>by omega⟩
  ·rw[List.getElem?_set_ne e]at hz;rw[hy]at hz;cases hz;exact⟨Int.le_refl _,fun _=>rfl⟩
theorem BK (K:List ai) (l:List CF) (n:Nat):∀k,nq (a8 K l n).2 (a8 K l (n+k)).2
 |0=>.refl _
 |k+1=>by
  have ih:=BK K l n k;refine ih.trans ?_;rw[←Nat.add_assoc];show nq _ (a8 K l (n+k+1)).2;rw[a8];cases K[n+k]? with
  |none=>exact .refl _
  |some v=>exact T1 _ _
theorem I9 {K:List ai} (hK:Av K) (l:List CF) (slot:Int) (c:b8):nq (a8 K l (aD K)).2 (a8 (bp K l slot c).1 l (aD (bp K l slot c).1)).2:=by
 unfold bp;split
 ·exact .refl _
 split
 ·exact .refl _
 split
 ·exact .refl _
 ·rename_i h1 h2 h3;obtain⟨h4,h5⟩:=oj (l:=l) hK (slot:=slot) (c:=c) om (Bool.not_eq_true _▸h3);show nq _ (a8 (put K (.of slot 0 c)) l (aD (put K (.of slot 0 c)))).2;have:=BK (put K (.of slot 0 c)) l (aD K) (aD (put K (.of slot 0 c)) - aD K);rw[h5,show aD K+(aD (put K (.of slot 0 c)) - aD K)=aD (put K (.of slot 0 c)) by omega]at this;exact this
noncomputable def cN (s:MS):Nat:=(gS s.K s.l).length
structure Gr (s s':MS) (k:Nat):Prop where
 ok:dc s'
 me:s'.me=s.me
 ms:s'.ah=s.ah
 l:s'.l=s.l
 no:s'.nodes=s.nodes
 tk:s'.aK=s.aK
 kr:nq (a8 s.K s.l (aD s.K)).2 (a8 s'.K s'.l (aD s'.K)).2
 out:s'.out.length+7*cN s≤s.out.length+7*cN s'+k
theorem Gr.refl {s:MS} (H:dc s):Gr s s 0:=⟨H,rfl,rfl,rfl,rfl,rfl,.refl _,om⟩
theorem Gr.trans {s s1 s2:MS} {a b:Nat} (h:Gr s s1 a) (k:Gr s1 s2 b):Gr s s2 (a+b):=
 ⟨k.ok,k.me.trans h.me,k.ms.trans h.ms,k.l.trans h.l,k.no.trans h.no,k.tk.trans h.tk,h.kr.trans k.kr,by have:=h.out;have:=k.out;omega⟩
theorem Gr.le {s s':MS} {a b:Nat} (h:Gr s s' a) (LH:a≤b):Gr s s' b:=⟨h.ok,h.me,h.ms,h.l,h.no,h.tk,h.kr,by have:=h.out;omega⟩
theorem abf {s:MS} (H:dc s):cN s<900:=by
 unfold cN gS;have h1:=qx s.K s.l (aD s.K);have h2:=y8 s.K;have h3:=H.kK.len;omega
theorem Gr.lt {s s':MS} {k:Nat} (_:dc s) (h:Gr s s' k):s'.out.length≤s.out.length+k+6300:=by
 have:=h.out;have:=abf h.ok;omega
theorem nr {s:MS} (H:dc s) (m:bS):Gr s (bo s m) 5:=by
 refine⟨H.outs _,rfl,rfl,rfl,rfl,rfl,.refl _,?_⟩;have h1:=lB s m s.ah.toNat
 have h2:=H.ms;show(s.out++mK s m s.ah.toNat).length+7*cN s≤s.out.length+7*cN s+5;rw[List.length_append];omega
theorem w8 {s:MS} (H:dc s) (m:bS) (to:Int):Gr s (DI s m to) 1:=by
 refine⟨H.outs _,rfl,rfl,rfl,rfl,rfl,.refl _,?_⟩;show(s.out++[vX s m to]).length+7*cN s≤s.out.length+7*cN s+1;rw[List.length_append];simp;omega
theorem Gm {s s':MS} (H:dc s) {slot:Int} {c:b8} (hc:0≤c.aq) (h:pU s slot c s'):Gr s s' 0:=by
 obtain⟨so,rfl,hk⟩:=h;obtain⟨h1,h2,h3⟩:=zi H.kK H.lE slot c hc;refine⟨⟨H.me,H.ms,H.px,H.lw,H.qk,H.qc,H.qp,hk,h1,H.lE,H.nd,H.nc⟩,rfl,rfl,rfl,rfl,rfl,I9 H.kK s.l slot c,?_⟩;have h6:∀x∈(bp s.K s.l slot c).2.1,x.nodes.length≤6:=fun x hx=>wZ H.lE _ x (h2 x hx);have h4:=zh s (bp s.K s.l slot c).2.1 h6;have h5:(bp s.K s.l slot c).2.1.length+(gS s.K s.l).length≤(gS (bp s.K s.l slot c).1 s.l).length:=by
  unfold bp;split
  ·simp
  split
  ·simp
  split
  ·simp
  rename_i g1 g2 g3;have hp:=(Mh H.kK (l:=s.l) (slot:=slot) (c:=c) om (Bool.not_eq_true _▸g3)).length_le;show((gS (put s.K (.of slot 0 c)) s.l).drop (gS s.K s.l).length).length+_≤(gS (put s.K (.of slot 0 c)) s.l).length;rw[List.length_drop];omega
 show(s.out++(if s.p.1.st=2 then g6 s (bp s.K s.l slot c).2.1 else [])).length+7*(gS s.K s.l).length≤s.out.length+7*(gS (bp s.K s.l slot c).1 s.l).length+0;rw[List.length_append];split
 ·omega
 ·simp;omega
theorem Qx {s s':MS} (H:dc s) {b slot aO:Int} (h:zj s b slot aO s'):Gr s s' 5:=by
 have H1:=H.accepted b slot aO;have rG:=(H.lw.accepted b slot aO).2;have h0:Gr s (I5 s b slot aO) 0:=⟨H1,rfl,rfl,rfl,rfl,rfl,.refl _,Nat.le_refl _⟩;unfold zj at h;split at h
 ·rename_i hb;exact(h0.trans ((nr H1 _).trans (Gm (H1.outs _) (pV (rG hb)) h))).le (by decide)
 ·subst h;exact h0.le (by decide)
theorem T2 {s s':MS} (H:dc s) {b slot to:Int} {m:bS} (h:zk s b slot to m s'):Gr s s' 5:=by
 unfold zk at h;split at h
 ·exact Qx H h
 ·subst h;exact(w8 H m to).le (by decide)
theorem Ja {s:MS} (H:dc s) (to:Int):Gr s (qL s to) 1:=by
 unfold qL;split
 ·exact⟨H.refuse _,rfl,rfl,rfl,rfl,rfl,.refl _,Nat.le_add_right _ _⟩
 ·exact w8 H _ to
theorem T3 {s s':MS} (H:dc s) {b slot to e:Int} (h:zm s b slot to e s'):Gr s s' 5:=by
 unfold zm at h;split at h
 ·have h1:=T2 H.zl h;exact⟨h1.ok,h1.me,h1.ms,h1.l,h1.no,h1.tk,h1.kr,h1.out⟩
 split at h
 ·subst h;exact(Ja H to).le (by decide)
 ·subst h;exact(Gr.refl H).le (by decide)
theorem BL {s s':MS} (H:dc s) {b slot ak:Int} {c:b8} (hb:0≤b∧b≤18446744073709551615) (h:jB s b slot c ak s'):Gr s s' 5:=by
 have h1:=T3 ((H.refuse b).acc hb slot c) h;exact⟨h1.ok,h1.me,h1.ms,h1.l,h1.no,h1.tk,h1.kr,h1.out⟩
inductive mh:MS→List ai→MS→Prop
 |nil (s:MS):mh s [] s
 |cons {s s1 s':MS} {v:ai} {vs:List ai} (h:jB (bo s (jC v)) v.ao v.slot (aA v) (bF s) s1) (k:mh s1 vs s'):mh s (v::vs) s'
theorem mh.snoc {s s1 s':MS} {v:ai} {vs:List ai} (h:mh s vs s1) (k:jB (bo s1 (jC v)) v.ao v.slot (aA v) (bF s1) s'):mh s (vs++[v]) s':=by
 induction h with
 |nil s=>exact .cons k (.nil _)
 |cons h _ ih=>exact .cons h (ih k)
theorem DN {s s':MS} {vs:List ai} (h:mh s vs s'):dc s→(∀v∈vs,0≤v.ao∧v.ao≤18446744073709551615)→Gr s s' (10*vs.length):=by
 induction h with
 |nil s=>intro H _;exact .refl H
 |cons h _ ih=>
  intro H hb;have h1:=BL (H.outs _) (hb _ List.mem_cons_self) h;have h2:=(nr H _).trans h1;have h3:=ih h2.ok fun v hv=>hb v (List.mem_cons_of_mem _ hv);exact(h2.trans h3).le (by rw[List.length_cons];omega)
@[reducible] def iL (b:Int):Prop:=0≤b∧b≤18446744073709551615
theorem Gn (s:MS) (H:dc s) (vs:List ai) (hb:∀v∈vs,iL v.ao) (hl:s.out.length<20000) (hv:vs.length≤600):VC E0 48 1 [cQ vs,.cW 39 [.ptr 0 0] []] (bz s) (RS (mh s vs)):=by
 refine en L0 Tryz.f48 ?_;refine⟨fun k f o c=>∃(i:Nat) (s1:MS),i≤vs.length∧k=vs.length - i∧mh s (vs.take i) s1∧c=1∧f=[(1,.cW 39 [.ptr 0 0] []),(6,cQ vs),(7,.s (.int .i64 (vs.map eL).length)),(8,.s (.int .i64 i))]∧o=bz s1,⟨vs.length,?_⟩,?_⟩
 ·exact⟨[],[some 0],_,_,_,t3,⟨0,s,Nat.zero_le _,rfl,.nil s,rfl,rfl,rfl⟩⟩
 ·rintro k f1 o1 c1 ⟨i,s1,hi,rfl,hA,rfl,rfl,rfl⟩;have hG:=DN hA H fun v hv=>hb v (List.mem_of_mem_take hv);have Sr:=hG.lt H;rw[List.length_take]at Sr;refine wh ?_;refine sp ?_ ?_<;>intro aU
  ·have aU:i<vs.length:=fW.1 aU;refine wh ?_;refine jg aU ?_;refine wh ?_;refine⟨[],[some 0],_,_,_,_,I8 s1 hG.ok (jC vs[i]) (hb _ (List.getElem_mem aU)) om,t3,?_⟩;rintro r o' c' ⟨s2,kE,rfl,rfl,rfl⟩;refine wh ?_;refine⟨vs.length - (i+1),?_,om⟩;exact⟨[],[some 0],_,_,_,t3,⟨i+1,s2,aU,rfl,by rw[gu _ i aU];exact hA.snoc kE,rfl,rfl,rfl⟩⟩
  ·have aU:¬i<vs.length:=mt fW.2 aU;refine wh ?_;exact⟨[],[some 0],_,_,_,t3,⟨s1,by rw[List.take_of_length_le (Nat.not_lt.1 aU)]at hA;exact hA,rfl,rfl,rfl⟩⟩
end Go.M
