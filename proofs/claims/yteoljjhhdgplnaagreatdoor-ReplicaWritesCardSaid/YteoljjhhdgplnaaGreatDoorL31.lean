/-
  Part 31 of the library that the proof leans on.
-/
import Derived.Test.YteoljjhhdgplnaaGreatDoorL12
import Derived.Test.YteoljjhhdgplnaaGreatDoorL24
import Derived.Test.YteoljjhhdgplnaaGreatDoorL25
import Derived.Test.YteoljjhhdgplnaaGreatDoorL26
import Derived.Test.YteoljjhhdgplnaaGreatDoorL27
import Derived.Test.YteoljjhhdgplnaaGreatDoorL28
import Derived.Test.YteoljjhhdgplnaaGreatDoorL29
import Derived.Test.YteoljjhhdgplnaaGreatDoorL30
namespace Go.M
open Go Go.Proofs
set_option maxRecDepth 100000
set_option maxHeartbeats 8000000
theorem nG {n i:Nat} (h:(As n i).2=true):qP n i=true:=by rw[Gv]at h;exact h
theorem QU {n:Nat} (h:n∈[1,2,3,4,5]):qP n 29=true:=by
 simp only[List.mem_cons,List.not_mem_nil,or_false]at h;rcases h with rfl |rfl |rfl |rfl |rfl
 ·exact nG aay
 ·exact nG aaz
 ·exact nG aaA
 ·exact nG aaB
 ·exact nG aaC
theorem wm {n:Nat}:∀{i:Nat},qP n i=true→∀j,j≤i→qP n j=true
 |0,h,j,hj=>by obtain rfl:j=0:=by omega
               exact h
 |i+1,h,j,hj=>by
  rcases Nat.lt_or_ge j (i+1)with h1|h1
  ·refine wm (i:=i) ?_ j om;unfold qP at h;rw[Bool.and_eq_true]at h;exact h.1
  ·obtain rfl:j=i+1:=by omega
   exact h
theorem IY {n:Nat} (h:n∈[1,2,3,4,5]) {i:Nat} (hi:i<29):EI n (w8 n i) (i+1)=true:=by
 have h1:=wm (QU h) (i+1) om;unfold qP at h1;simp only[Bool.and_eq_true]at h1;exact h1.2.1
theorem MU {n:Nat} (h:n∈[1,2,3,4,5]) {i:Nat} (hi:i≤29):IM n i (w8 n i)=true:=by
 have h1:=wm (QU h) i hi;cases i with
 |zero=>exact h1
 |succ i=>
  unfold qP at h1;simp only[Bool.and_eq_true]at h1;exact h1.2.2
theorem IZ {i:Nat} {l:List Lr} (h:vV i l=true):∃m l',l=m::l'∧m.kind=18∧m.num=i∧m.code=0:=by
 cases l with
 |nil=>cases h
 |cons m l=>
  simp only[vV,Bool.and_eq_true,beq_iff_eq]at h;exact⟨m,l,rfl,h.1.1,h.1.2,h.2⟩
theorem I1 (n i:Nat):w8 n (i+1)=(iW (wg n (w8 n i) (i+1)) (2*n+4)).1:=rfl
theorem MV {s:eZ} (H:s8 s):(CD s).length<1000000:=by
 have h1:=yG H (b7 (fu s.bs));have h2:(b7 (fu s.bs)).length=s.bs.length:=by unfold b7;rw[List.length_mergeSort,List.length_map]
 have h3:=H.n;have h4:=pF (gl s.t);have h5:=sf s.t;show(cy 8 s.e.toNat++(cy 1 (gl s.t).length++(gl s.t).flatMap Ak)++cy 2 s.bs.length++(b7 (fu s.bs)).flatMap (tD s)).length<1000000;simp only[List.length_append,bF,h4];omega
theorem Xj {l:List RS} {i j:Nat} {x y:RS} (h:l[i]? =some x) (h2:l[j]? =some y):((l.map dP).set i (dP x)).set j (dP y)=l.map dP:=by
 rw[Gw h,Gw h2]
theorem PV (nn ww:Int) (hw:0≤ww∧ww≤255):VC E0 3 0 [.s (.int .i64 nn),.s (.int .u8 ww)] [] (fun r _ _=>r= .s (.bool true)):=by
 refine en L0 Tryz.f3 ?_;refine sp ?_ ?_<;>intro h1
 ·refine wh ?_;refine⟨[],[],_,_,_,_,sr,t3,cw ?_⟩;exact⟨[],[],[],.s (.bool true),[],⟨.s Lz.rfl,.nil,rfl⟩,rfl⟩
 have h1:¬nn<1:=h1;refine wh ?_;refine sp ?_ ?_<;>intro h2
 ·refine wh ?_;refine⟨[],[],_,_,_,_,sr,t3,cw ?_⟩;exact⟨[],[],[],.s (.bool true),[],⟨.s Lz.rfl,.nil,rfl⟩,rfl⟩
 have h2:¬nn>5:=h2;obtain⟨n,rfl⟩:∃n:Nat,nn=n:=⟨nn.toNat,om⟩;have hn:n∈[1,2,3,4,5]:=by simp;omega
 obtain⟨v,hv,hvw⟩:∃v:Nat,v≤29∧(v:Int)=ww % 30:=⟨(ww % 30).toNat,om,om⟩;have Jf:IntKind.i64.wrap ww=ww:=IntWalk.i64_in _ om;have N3:ww.tmod 30=ww % 30:=Int.tmod_eq_emod_of_nonneg hw.1;refine wh ?_;refine⟨[],[],_,_,_,_,MR n hn,t3,cw ?_⟩;rw[Jf,N3,←hvw];refine⟨fun kk f o c=>∃(k:Nat) (all:List RS),k≤v∧kk=v - k∧all=w8 n k∧c=2∧f=[(0,.s (.int .i64 n)),(5,.ptr 0 0),(6,.tk 1),(7,.s (.int .i64 v)),(8,.s (.int .i64 ((k:Int)+1)))]∧o=[(0,.cells (dS (gY n))),(1,At all)],⟨v,?_⟩,?_⟩
 ·exact⟨[],[some 1,some 0],_,_,_,t3,⟨0,vU n,Nat.zero_le _,rfl,rfl,rfl,rfl,rfl⟩⟩
 rintro kk f1 o1 c1 ⟨k,all,hk,rfl,ha,rfl,rfl,rfl⟩;refine wh ?_;refine sp ?_ ?_<;>intro bj;rotate_left
 ·have bj:¬(k:Int)+1≤v:=bj;obtain rfl:k=v:=by omega
  clear bj hk;refine wh ?_;have he:=MU hn (i:=k) om;rw[←ha]at he;clear ha;simp only[IM,Bool.and_eq_true,decide_eq_true_eq]at he;obtain⟨c9,he⟩:=he;obtain⟨x0,g0⟩:∃x,all[0]? =some x:=⟨_,List.getElem?_eq_getElem om⟩;rw[g0]at he;have hex:∀x∈all,x.st.e=k∧x.aJ.done=k∧x.st=x0.st∧s8 x.st:=fun x hx=>by
   have:=List.all_eq_true.1 he x hx;simp only[Bool.and_eq_true,decide_eq_true_eq]at this;exact⟨this.1,this.2.1,PN this.2.2.1,MI this.2.2.2⟩
  clear he;have Yh:IntKind.u64.wrap (k:Int)=k:=IntWalk.u64_in _ om;refine⟨fun kk f o c=>∃j:Nat,j≤n∧kk=n - j∧c=1∧f=[(0,.s (.int .i64 n)),(6,.tk 0),(7,.s (.int .i64 k)),(11,.s (.int .i64 j))]∧o=[(0,At all)],⟨n,?_⟩,?_⟩
  ·exact⟨[],[some 1],_,_,_,t3,⟨0,Nat.zero_le _,rfl,rfl,rfl,rfl⟩⟩
  rintro kk f1 o1 c1 ⟨j,hj,rfl,rfl,rfl,rfl⟩;refine wh ?_;refine sp ?_ ?_<;>intro bj;rotate_left
  ·refine wh ?_;refine⟨[],[],_,_,_,_,sr,t3,cw ?_⟩;exact⟨[],[],[],.s (.bool true),[],⟨.s Lz.rfl,.nil,rfl⟩,rfl⟩
  have bj:(j:Int)<n:=bj;obtain⟨x,gx⟩:∃x,all[j]? =some x:=⟨_,List.getElem?_eq_getElem om⟩;have gi:(all.map dP)[(j:Int).toNat]? =some (dP x):=by simp[gx]
  have gi0:(all.map dP)[(0:Int).toNat]? =some (dP x0):=by simp[g0]
  obtain⟨e1,e2,e3,e4⟩:=hex x (List.mem_of_getElem? gx);have e8:=PO x;have Xk:=PQ x;have Pv:=Gm x.st e4;have mh:=PR (CD x.st) (MV e4);have Xl:=Gm x0.st (e3▸e4);have TF:VC E0 13 0 [.sl 1 (bA (CD x.st)) false,.sl 1 (bA (CD x0.st)) false] [] (RR (.s (.bool true)) 0 []):=by rw[←e3];exact mh
  have hwj:IntKind.i64.wrap ((j:Int)+1)=((j+1:Nat):Int):=IntWalk.i64_in _ om;rw[e1]at e8;rw[e2]at Xk;refine wh ?_;refine⟨⟨om,by rw[List.length_map];omega⟩,?_⟩;refine wh ?_;refine⟨dP x,gi,?_⟩;refine wh ?_;refine⟨[],[some 1],_,_,_,_,e8,t3,cw ?_⟩;rw[Yh];refine sp ?_ ?_<;>intro k1
  ·exact absurd rfl k1
  refine wh ?_;refine⟨⟨om,by rw[List.length_map];omega⟩,?_⟩;refine wh ?_;refine⟨fun _=>?_,fun h=>absurd rfl h⟩;refine wh ?_;refine⟨[],[some 1],_,_,_,_,Xk,t3,cw ?_⟩;rw[Yh];refine sp ?_ ?_<;>intro k2
  ·exact absurd rfl k2
  refine wh ?_;refine⟨⟨om,by rw[List.length_map];omega⟩,?_⟩;refine wh ?_;refine⟨fun _=>?_,fun h=>absurd rfl h⟩;refine wh ?_;refine⟨[],[some 1],_,_,_,_,qQ x,t3,cw ?_⟩;refine⟨[],[some 5],_,_,_,_,Pv,t3,cw ?_⟩;refine⟨⟨om,by rw[List.length_map];omega⟩,?_⟩;refine wh ?_;refine⟨fun hz=>?_,fun hz=>?_⟩
  ·refine wh ?_;refine⟨[],[some 1],_,_,_,_,qQ x,t3,cw ?_⟩;refine⟨[],[some 8],_,_,_,_,Pv,t3,cw ?_⟩;refine⟨[],[],_,_,_,_,mh,t3,cw ?_⟩;rw[hwj];refine⟨n - (j+1),?_,om⟩;refine⟨[],[some 0],_,_,_,⟨tq,.cons (.bZ (kA:=[(_,dP x)]) .one (Lw.of (Gw gx)) (.q1 tq)) .nil,by rfl⟩,⟨j+1,om,rfl,rfl,rfl,rfl⟩⟩
  ·have hz:¬(0:Int).toNat=(j:Int).toNat:=hz;refine wh ?_;refine⟨dP x0,gi0,?_⟩;refine wh ?_;refine⟨[],[some 7],_,_,_,_,qQ x0,t3,cw ?_⟩;refine⟨[],[some 9],_,_,_,_,Xl,t3,cw ?_⟩;refine⟨[],[],_,_,_,_,TF,t3,cw ?_⟩;rw[hwj];refine⟨n - (j+1),?_,om⟩;refine⟨[],[some 0],_,_,_,⟨tq,.cons (.bZ (kA:=[(_,dP x0),(_,dP x)]) .two (Lw.of (Xj gx g0)) (.q2 hz tq (.q1 tq))) .nil,by rfl⟩,⟨j+1,om,rfl,rfl,rfl,rfl⟩⟩
 have bj:(k:Int)+1≤v:=bj;have bU:=IY hn (i:=k) om;have X8:=I1 n k;simp only[EI,Bool.and_eq_true,decide_eq_true_eq]at bU;obtain⟨c9,Yi,sK,Xm,Nr⟩:=bU;rw[←ha]at c9 Yi sK Xm Nr X8;clear ha;obtain⟨x,gx⟩:∃x,all[0]? =some x:=⟨_,List.getElem?_eq_getElem om⟩;have gi:(all.map dP)[(0:Int).toNat]? =some (dP x):=by simp[gx]
 have Qs:wg n all (k+1)=(all.set 0 (gK (iF x (pA (gY n) 1 (1+((k+1:Nat):Int) % 6) (k+1:Nat)))),(iF x (pA (gY n) 1 (1+((k+1:Nat):Int) % 6) (k+1:Nat))).out,[]):=by unfold wg;rw[gx]
 simp only[MF,gx]at Yi;have BM:=Gt Yi;have AN:((k:Int)+1).tmod 6=((k+1:Nat):Int) % 6:=Int.tmod_eq_emod_of_nonneg om;have UM:IntKind.i64.wrap (1+((k+1:Nat):Int) % 6)=1+((k+1:Nat):Int) % 6:=IntWalk.i64_in _ om;have hm3:IntKind.u64.wrap ((k:Int)+1)=((k+1:Nat):Int):=IntWalk.u64_in _ om;have Rm:IntKind.i64.wrap (IntKind.i64.wrap (2*(n:Int))+4)=((2*n+4:Nat):Int):=by rw[IntWalk.i64_in (2*(n:Int)) om];exact IntWalk.i64_in _ om
 refine wh ?_;refine⟨⟨om,by rw[List.length_map];omega⟩,?_⟩;refine wh ?_;refine⟨dP x,gi,?_⟩;refine wh ?_;rw[AN,UM,hm3];refine⟨[],[],_,_,_,_,MP (gY n) 1 (1+((k+1:Nat):Int) % 6) (k+1:Nat) om om,t3,cw ?_⟩;have XC:(wg n all (k+1)).1.length=n:=by rw[Qs];show(all.set 0 _).length=n;rw[List.length_set];exact c9
 have Gx:=PU (wg n all (k+1)) (2*n+4) om om (by rw[Qs]) sK;have Xm:vV (k+1) (iW (wg n all (k+1)) (2*n+4)).2.2=true:=Xm;have Nr:(iW (wg n all (k+1)) (2*n+4)).2.2.length≤1000:=Nr;generalize iW (wg n all (k+1)) (2*n+4)=wf at Gx Xm Nr X8;rw[Qs]at Gx;clear sK Qs XC Yi;generalize iF x (pA (gY n) 1 (1+((k+1:Nat):Int) % 6) (k+1:Nat))=y at BM Gx;obtain⟨m,l',hl,q1,q2,q3⟩:=IZ Xm;obtain⟨Yj,sd2,tl2⟩:=wf;have hl:tl2=m::l':=hl;subst hl;refine⟨[],[some 2],_,_,_,_,BM,t3,cw ?_⟩;refine wh ?_;rw[Rm];refine⟨[4],[some 1],_,_,_,_,Gx,⟨tq,.cons (.bZ (kA:=[(_,dP (gK y))]) .one (Lw.of TA) (.q1 tq)) .nil,by rfl⟩,?_⟩
 rintro r o' c' ⟨rfl,rfl,rfl⟩;refine wh ?_;have gt:(((Yj,sd2,m::l').2.2:List Lr).map bK)[(0:Int).toNat]? =some (bK m):=rfl;have hml:(((Yj,sd2,m::l').2.2:List Lr).map bK).length=l'.length+1:=by simp
 have Jf:IntKind.i64.wrap ((k:Int)+1+1)=((k+1:Nat):Int)+1:=IntWalk.i64_in _ om;refine sp ?_ ?_<;>intro k1
 ·have k1:((((Yj,sd2,m::l').2.2:List Lr).map bK).length:Int)<1:=k1;omega
 refine wh ?_;refine⟨⟨om,om⟩,?_⟩;refine wh ?_;refine⟨bK m,gt,?_⟩;refine wh ?_;refine sp ?_ ?_<;>intro k2
 ·exact absurd q1 k2
 refine wh ?_;refine⟨⟨om,om⟩,?_⟩;refine wh ?_;refine⟨bK m,gt,?_⟩;refine wh ?_;rw[hm3];refine sp ?_ ?_<;>intro k3
 ·exact absurd q2 k3
 refine wh ?_;refine⟨⟨om,om⟩,?_⟩;refine wh ?_;refine⟨bK m,gt,?_⟩;refine wh ?_;refine sp ?_ ?_<;>intro k4
 ·exact absurd q3 k4
 refine wh ?_;rw[Jf];refine⟨v - (k+1),?_,om⟩;exact⟨[],[some 0,some 1],_,_,_,t3,⟨k+1,Yj,om,rfl,X8.symm,rfl,rfl,rfl⟩⟩
end Go.M
