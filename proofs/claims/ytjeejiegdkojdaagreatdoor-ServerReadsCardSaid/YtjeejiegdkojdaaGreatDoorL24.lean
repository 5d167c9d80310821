/-
  Part 24 of the library that the proof leans on.
-/
import Derived.Test.YtjeejiegdkojdaaGreatDoorL23
import Derived.Test.YtjeejiegdkojdaaGreatDoorL12
namespace Go.M
open Go Go.Proofs
set_option maxRecDepth 100000
set_option maxHeartbeats 8000000
structure J7 where
 kind:Int
 i:Int
 late:Bool
 QD:Bool
@[reducible] def tQ (p:J7):List TV:=[.s (.int .i64 p.kind),.s (.int .i64 p.i),.s (.bool p.late),.s (.bool p.QD)]
noncomputable def jV (n:Nat) (all:List eB):List (List TV):=all.dropLast.map mC++[mC (nj n n)]
theorem J8 {n:Nat} {all:List eB} (h:all.length=n) (hn:1≤n):(jV n all).length=n:=by
 unfold jV;rw[List.length_append,List.length_map,List.length_dropLast];simp;omega
theorem lW {n:Nat} {all:List eB} (h:all.length=n) {j:Int} (h1:1≤j) (h2:j<n):(jV n all)[(j - 1).toNat]? =some (mC (sv all j)):=by
 unfold jV;rw[List.getElem?_append_left (by rw[List.length_map,List.length_dropLast];omega),List.getElem?_map,List.getElem?_dropLast,if_pos om,XW om];rfl
theorem lX {n:Nat} {all:List eB} (h:all.length=n) {j:Int} (h1:1≤j) (h2:j<n) (s:eB):(jV n all).set (j - 1).toNat (mC s)=jV n (all.set (j - 1).toNat s):=by
 unfold jV;rw[List.set_append_left _ _ (by rw[List.length_map,List.length_dropLast];omega)]
 congr 1
 refine List.ext_getElem? fun i=>?_;rw[List.getElem?_set,List.getElem?_map,List.getElem?_map,List.getElem?_dropLast,List.getElem?_dropLast,List.getElem?_set,List.length_map,List.length_dropLast,List.length_set];by_cases e:(j - 1).toNat=i
 ·subst e;rw[if_pos rfl,if_pos rfl,if_pos om,if_pos om,if_pos om];rfl
 ·rw[if_neg e,if_neg e]
theorem jW {n:Nat} {all:List eB} (h:all.length=n) (s:eB):jV n (all.set ((n:Int) - 1).toNat s)=jV n all:=by
 unfold jV
 congr 2
 refine List.ext_getElem? fun i=>?_;rw[List.getElem?_dropLast,List.getElem?_dropLast,List.length_set];split
 ·rw[List.getElem?_set_ne om]
 ·rfl
theorem MJ {n:Nat} (hn:1≤n):(we n n).map mC=jV n (we n n):=by
 unfold jV;obtain⟨k,rfl⟩:∃k,n=k+1:=⟨n - 1,om⟩;rw[F4,List.dropLast_concat,List.map_append];rfl
@[reducible] noncomputable def oV (n:Nat) (all:List eB) (said:List Lr) (A:List ig):Ob:=[(0,.bx 1 (jV n all) [(n - 1,[.ptr 1 0])]),(1,mB (sv all n)),(2,eP said),(3,eK A)]
@[reducible] noncomputable def frV (n:Nat) (l:List J7) (num:Int) (i:Nat):List (Nat×TV):=[(0,.s (.int .i64 n)),(1,.sl 4 (l.map tQ) false),(5,.tk 0),(6,.ptr 1 0),(7,.tk 2),(8,.tk 3),(9,.s (.int .u64 num)),(10,.s (.int .i64 i))]
@[reducible] def abJ (es:List (List TV)) (a:Nat):List (List TV):=((es.take a).drop 0)++((es.take es.length).drop (a+1))
theorem J9 (l:List Lr) (a:Nat):abJ (l.map aE) a=(l.take a++l.drop (a+1)).map aE:=by
 unfold abJ;rw[List.take_length,List.drop_zero,List.map_append,List.map_take,List.map_drop]
structure qC (n:Nat) (T:Int) (all:List eB) (said:List Lr) (A:List ig) (num:Int) (ms:List Lr):Prop where
 inv:∃g,c7 n T all (said++uV n ms) A num g
 P9:oK (sv all n).x.st
 len:ms.length≤4000
 told:∀m∈ms,m.kind=20→(0≤m.key∧m.key≤2)∧(∃a∈A,a.num=m.num∧a.key=m.key)∧∀a∈A,a.num=m.num→a.key=m.key→a.at_ m.key≤m.bA∧m.bA≤(if m.key=0 then aR (sv all n) 0 else if m.key=1 then aR (sv all n) 1 else aR (sv all n) 2)
section
variable {n:Nat} {T:Int} {all:List eB} {said:List Lr} {A:List ig} {num:Int} {g:Int→List bd}
theorem c7.up (I:c7 n T all said A num g) {T':Int} (h:T≤T'):c7 n T' all said A num g:=
 ⟨I.n4,I.ci,fun j h1 h2=>by have:=I.nd j h1 h2;exact⟨this.1,this.2.1,om⟩,I.rd,I.asks,I.uniq,I.said⟩
theorem Vm.out {T' ot:Int} {G:List bd} {j:Int} {s':eB} {ms:List Lr} {A':List ig} (S:Vm n T' all said A' ot G j s' ms) {T2:Int} (hT:T'≤T2) (hb:ot≤1000):qC n T2 (all.set (j - 1).toNat s') said A' ot ms:=by
 obtain⟨⟨g',I,hG⟩,ht,hl⟩:=S;have hn:=I.M8;have hv:=fun k=>Di I (j:=n) om (Int.le_refl _) k;refine⟨⟨g',I.up hT⟩,I.P9 hb om (Int.le_refl _),hl,fun m hm hk=>?_⟩;obtain⟨a1,a2,a3⟩:=ht m hm hk;refine⟨a1,a2,fun a ha h1 h2=>?_⟩;have:=a3 a ha h1 h2;rw[←hG]at this;refine⟨this.1,?_⟩;have hk3:m.key=0∨m.key=1∨m.key=2:=by omega
 have h3:=this.2;rcases hk3 with e|e|e
 ·rw[e]at h3 ⊢;rw[if_pos rfl];show _≤(ba (cE _ 0)).bA;rw[hv];exact h3
 ·rw[e]at h3 ⊢;rw[if_neg (by decide),if_pos rfl];show _≤(ba (cE _ 1)).bA;rw[hv];exact h3
 ·rw[e]at h3 ⊢;rw[if_neg (by decide),if_neg (by decide)];show _≤(ba (cE _ 2)).bA;rw[hv];exact h3
theorem c7.stay (I:c7 n T all said A num g) (hb:num≤1000) {cV:List Lr} (h:∀m∈cV,m∈said) {T2:Int} (hT:T≤T2):qC n T2 all cV A num []:=by
 have hn:=I.M8;refine⟨⟨g,?_⟩,I.P9 hb om (Int.le_refl _),by simp,fun m hm=>by cases hm⟩;show c7 n T2 all (cV++[]) A num g;rw[List.append_nil];exact(I.less h).up hT
theorem c7.to1 (I:c7 n T all said A num g) {m:Lr} (hm:m∈said):1≤m.to:=by
 have hn:=I.M8;rcases I.said m hm with hr|⟨j,t,k,e,h3,_⟩|⟨j,t,k,v,e,h3,_⟩
 ·rcases I.ci.said m (List.mem_filter.2 ⟨hm,hr⟩)with⟨_,h⟩|⟨h,_⟩
  ·omega
  ·rcases h.1.2.1 with q|q<;>omega
 ·rw[e];show 1≤(n:Int);omega
 ·rw[e];exact h3.1
theorem c7.take (I:c7 n T all said A num g) (hb:num≤1000) {m:Lr} (hm:m∈said) {j:Int} (h2:j≤n) (ly:m.to=j) {cV:List Lr} (hs:∀m∈cV,m∈said) {T2:Int} (hT:T≤T2):
 ∃s' ms,VC E0 6 1 [.ptr 0 0,.agg (aE m)] (Qw (sv all j)) (J3 s' ms)∧qC n T2 (all.set (j - 1).toNat s') cV A num ms:=by
 have h1:=I.to1 hm;rw[ly]at h1;rcases I.said m hm with hr|hr
 ·obtain⟨s',ms,G,V,S⟩:=I.Jy hb hm hr h1 h2 ly hs;exact⟨s',ms,J4 V,S.out hT hb⟩
 ·obtain⟨s',ms,G,V,S⟩:=I.abA hb hr h1 h2 ly hs;exact⟨s',ms,J4 V,S.out hT hb⟩
theorem c7.Vn (I:c7 n T all said A num g) (hb:num≤1000) (hT:T≤5000) {j:Int} (h1:1≤j) (h2:j≤n):
 ∃s' ms,VC E0 7 1 [.ptr 0 0,.sl 0 [] true] (Qw (sv all j)) (RR (.tk 1) 2 [(0,mB s'),(1,pQ ms)])∧qC n (T+1) (all.set (j - 1).toNat s') said A num ms:=by
 obtain⟨V,G,S⟩:=I.tick hb hT h1 h2;exact⟨_,_,abC V,S.out (Int.le_refl _) hb⟩
theorem c7.QE (I:c7 n T all said A num g) (hb:num≤900) {u:bd} (hu:∀s,UG (num+1) {u with seq:=s}) (Vg:u.seq=0) (hun:num<u.num) {T2:Int} (hT:T≤T2):
 ∃s' ms,VC E0 6 1 [.ptr 0 0,.agg (aE (wJ 201 1 0 1 [u]))] (Qw (sv all 1)) (J3 s' ms)∧qC n T2 (all.set ((1:Int) - 1).toNat s') said A (num+1) ms:=by
 obtain⟨s',ms,G,V,S⟩:=I.write hb hu Vg hun;exact⟨s',ms,J4 V,S.out hT om⟩
theorem c7.Vo (I:c7 n T all said A num g) (hb:num≤900) {j:Int} (h1:1≤j) (h2:j≤n) {f key:Int} (hf:f=202∨f=203) (hk:0≤key∧key≤2) {T2:Int} (hT:T≤T2):
 ∃s' ms,VC E0 6 1 [.ptr 0 0,.agg (aE (zA f j 0 1 (num+1) key))] (Qw (sv all j)) (J3 s' ms)∧qC n T2 (all.set (j - 1).toNat s') said (A++[⟨num+1,key,aR (sv all n) 0,aR (sv all n) 1,aR (sv all n) 2⟩]) (num+1) ms:=by
 have hn:=I.M8;have hv:=fun k=>Di I (j:=n) om (Int.le_refl _) k;obtain⟨s',ms,V,S⟩:=I.read hb h1 h2 hf hk (a:=⟨num+1,key,aR (sv all n) 0,aR (sv all n) 1,aR (sv all n) 2⟩) ⟨rfl,rfl⟩ (fun k k1 k2=>by
  have hk3:k=0∨k=1∨k=2:=by omega
  rcases hk3 with rfl |rfl |rfl
  ·exact hv 0
  ·exact hv 1
  ·exact hv 2)
 exact⟨s',ms,J4 V,S.out hT om⟩
end
theorem c7.begun {n:Nat} (hn:n∈[1,2,3,4]):c7 n 0 (we n n) [] [] 0 (fun _=>[]):=by
 have h1:1≤n∧n≤4:=by simp at hn;omega
 have qg:∀j:Int,1≤j→j≤n→sv (we n n) j=nj n j:=fun j a b=>by
  unfold sv we;rw[List.getElem?_map,List.getElem?_range om];show nj n (((j - 1).toNat:Int)+1)=_;rw[show((j - 1).toNat:Int)+1=j by omega]
 have hm:(we n n).map eB.x=fI n:=by
  unfold we fI;rw[List.map_map];rfl
 refine⟨hn,?_,fun j a b=>?_,fun j a b=>?_,fun a h=>(by cases h),List.Pairwise.nil,fun m h=>(by cases h)⟩
 ·rw[hm];exact gJ.begun n hn
 ·rw[qg j a b];exact⟨rfl,Int.le_refl _,Int.le_refl _⟩
 ·rw[qg j a b];exact⟨⟨Int.le_refl _,Int.le_refl _⟩,fun r h=>(by cases h),fun r h=>(by cases h),List.nodup_nil,List.Pairwise.nil,fun r h=>(by cases h)⟩
@[reducible] noncomputable def oM (n:Nat) (all:List eB) (said:List Lr) (A:List ig) (ms:List Lr):Ob:=[(0,.bx 1 (jV n all) [(n - 1,[.ptr 1 0])]),(1,mB (sv all n)),(2,eP said),(3,eK A),(4,eP ms)]
theorem Ga (A:List ig) (a:ig):A.map MI++[MI a]=(A++[a]).map MI:=by rw[List.map_append];rfl
theorem Gb {A:List ig} {a:ig} {i:Nat} (h:A.length≤i):(A++[a]).length≤i+1:=by rw[List.length_append,List.length_singleton];omega
theorem X2 (nn:Int) (l:List J7) (hpi:∀p∈l,p.i≤9223372036854775807):VC E0 3 0 [.s (.int .i64 nn),.sl 4 (l.map tQ) false] [] (fun r _ _=>r= .s (.bool true)):=by
 refine VC.bE L0 (show E0.func 3=some Tryz.f3 by kernel_rfl) (fun _ _=>rfl) rfl rfl [2] ?_;refine wh ?_;refine sp ?_ ?_<;>intro h1
 ·refine wh ?_;refine⟨[],[],_,_,_,_,gk,t3,cw ?_⟩;exact⟨[],[],_,_,_,t3,rfl⟩
 have h1:¬nn<1:=h1;refine wh ?_;refine sp ?_ ?_<;>intro h2
 ·refine wh ?_;refine⟨[],[],_,_,_,_,gk,t3,cw ?_⟩;exact⟨[],[],_,_,_,t3,rfl⟩
 have h2:¬nn>4:=h2;refine wh ?_;refine sp ?_ ?_<;>intro h3
 ·refine wh ?_;refine⟨[],[],_,_,_,_,gk,t3,cw ?_⟩;exact⟨[],[],_,_,_,t3,rfl⟩
 have h3:¬(((l.map tQ).length:Nat):Int)>500:=h3;rw[List.length_map]at h3;obtain⟨n,rfl⟩:∃n:Nat,nn=n:=⟨nn.toNat,om⟩;have hn:n∈[1,2,3,4]:=by simp;omega
 have hbg:VC E0 5 0 [.s (.int .i64 n)] [] (RR (.tk 0) 1 [(0,.bx 1 (jV n (we n n)) [])]):=by
  rw[←MJ om];exact QA n hn
 have II:=J5 n n;have vu:=J8 II om;have hw0:IntKind.i64.wrap ((n:Int) - 1)=((n - 1:Nat):Int):=by rw[IntWalk.i64_in _ om];omega
 have V1:(jV n (we n n))[(((n - 1:Nat):Int)).toNat]? =some (mC (nj n n)):=by
  unfold jV;rw[List.getElem?_append_right (by rw[List.length_map,List.length_dropLast];omega),List.length_map,List.length_dropLast];rw[show(((n - 1:Nat):Int)).toNat - ((we n n).length - 1)=0 by omega];rfl
 have qg:nj n n=sv (we n n) n:=by
  unfold sv we;rw[List.getElem?_map,List.getElem?_range om];show _=nj n ((((n:Int) - 1).toNat:Int)+1);rw[show(((n:Int) - 1).toNat:Int)+1=n by omega]
 have aeV:[(0,TO.bx 1 (jV n (we n n)) [(n - 1,[.ptr 1 0])]),(1,mB (nj n n)),(2,eP []),(3,eK [])]=oV n (we n n) [] []:=by
  unfold oV;rw[←qg]
 refine wh ?_;refine⟨[],[],_,_,_,_,hbg,t3,cw ?_⟩;rw[hw0];refine⟨⟨om,by rw[vu];omega⟩,?_⟩;refine wh ?_;refine⟨mC (nj n n),V1,?_⟩;refine wh ?_;refine⟨fun kk f o c=>∃(i:Nat) (all:List eB) (said:List Lr) (A:List ig) (num:Int) (g:Int→List bd),i≤l.length∧kk=l.length - i∧c7 n i all said A num g∧num≤i∧A.length≤i∧said.length≤1500∧c=4∧f=frV n l num i∧o=oV n all said A,⟨l.length,?_⟩,?_⟩
 ·exact⟨[],[some 0,some 1,none,none],_,_,_,t3,⟨0,we n n,[],[],0,_,Nat.zero_le _,rfl,c7.begun hn,Int.le_refl _,Nat.zero_le _,Nat.zero_le _,rfl,rfl,aeV⟩⟩
 rintro kk f1 o1 c1 ⟨i,all,said,A,num,g,hi,rfl,I,aeJ,Vp,DK,rfl,rfl,rfl⟩;have oL:IntKind.i64.wrap ((i:Int)+1)=((i+1:Nat):Int):=IntWalk.i64_in _ om;have cW:all.length=n:=I.len;clear vu V1 qg II hbg hw0;have vu:=J8 cW om;refine wh ?_;refine sp ?_ ?_<;>intro h;rotate_left
 ·refine wh ?_;refine⟨[],[],_,_,_,_,gk,t3,cw ?_⟩;exact⟨[],[],_,_,_,t3,rfl⟩
 have h:i<l.length:=vF.1 h;have gp:(l.map tQ)[(i:Int).toNat]? =some (tQ l[i]):=by rw[Int.toNat_natCast,List.getElem?_map,List.getElem?_eq_getElem h];rfl
 have Uy:=hpi l[i] (List.getElem_mem h);generalize l[i]=p at gp Uy;refine wh ?_;refine⟨tQ p,⟨om,gp⟩,?_⟩;refine wh ?_;refine sp ?_ ?_<;>intro PR
 ·refine wh ?_;refine⟨[],[],_,_,_,_,gk,t3,cw ?_⟩;exact⟨[],[],_,_,_,t3,rfl⟩
 obtain⟨pk,pi,late,QD⟩:=p;have PR:¬pi<0:=PR;have Uy:pi≤9223372036854775807:=Uy;refine wh ?_;refine sp ?_ ?_<;>intro mK;rotate_left
 ·have mK:¬(((said.map aE).length:Nat):Int)>0:=mK;rw[List.length_map]at mK;refine⟨fun f o c=>∃(al:List eB) (sd ms:List Lr) (A':List ig) (nm:Int),qC n ((i+1:Nat):Int) al sd A' nm ms∧nm≤(i:Int)+1∧A'.length≤i+1∧sd.length≤1500∧c=5∧f=[(0,.s (.int .i64 n)),(1,.sl 4 (l.map tQ) false),(5,.tk 0),(6,.ptr 1 0),(7,.tk 2),(8,.tk 3),(9,.s (.int .u64 nm)),(10,.s (.int .i64 i)),(14,.tk 4)]∧o=oM n al sd A' ms,?_,?_⟩;rotate_left
  ·rintro f1 o1 c1 ⟨al,sd,ms,A',nm,O,Uw,hA',Yw,rfl,rfl,rfl⟩;obtain⟨⟨g',I'⟩,X3,hml,ly⟩:=O;have hT:=lV (sv al n) X3;have hTo:=BA ms A' (aR (sv al n) 0) (aR (sv al n) 1) (aR (sv al n) 2) om om ly;have hKe:=J6 sd ms n om om;refine wh ?_;refine⟨[],[some 1],_,_,_,_,hT,t3,cw ?_⟩;refine⟨[],[some 4,some 3],_,_,_,_,hTo,t3,cw ?_⟩;refine⟨[],[some 2,some 4],_,_,_,_,hKe,t3,?_⟩;rintro r o' c' (⟨h0,rfl,rfl,rfl⟩|⟨rfl,rfl,rfl⟩)
   ·have eN:[(0,TO.bx 1 (jV n al) [(n - 1,[.ptr 1 0])]),(1,mB (sv al n)),(2,eP sd),(3,eK A')]=oV n al (sd++uV n ms) A':=by
     unfold oV;rw[h0,List.append_nil]
    refine wh ?_;refine sp ?_ ?_<;>intro TZ
    ·refine wh ?_;refine⟨[],[],_,_,_,_,gk,t3,cw ?_⟩;exact⟨[],[],_,_,_,t3,rfl⟩
    refine wh ?_;rw[oL];refine⟨l.length - (i+1),?_,om⟩;exact⟨[],[some 0,some 1,some 2,some 3],_,_,_,t3,⟨i+1,al,sd++uV n ms,A',nm,g',om,rfl,I',om,by omega,by rw[h0,List.append_nil];omega,rfl,rfl,eN⟩⟩
   ·have eN:[(0,TO.bx 1 (jV n al) [(n - 1,[.ptr 1 0])]),(1,mB (sv al n)),(2,eP (sd++uV n ms)),(3,eK A')]=oV n al (sd++uV n ms) A':=rfl;refine wh ?_;refine sp ?_ ?_<;>intro TZ
    ·refine wh ?_;refine⟨[],[],_,_,_,_,gk,t3,cw ?_⟩;exact⟨[],[],_,_,_,t3,rfl⟩
    have TZ:¬((((sd++uV n ms).map aE).length:Nat):Int)>1500:=TZ;rw[List.length_map]at TZ;refine wh ?_;rw[oL];refine⟨l.length - (i+1),?_,om⟩;exact⟨[],[some 0,some 1,some 10,some 3],_,_,_,t3,⟨i+1,al,sd++uV n ms,A',nm,g',om,rfl,I',om,by omega,om,rfl,rfl,eN⟩⟩
  refine wh ?_;refine sp ?_ ?_<;>intro k0
  ·refine wh ?_;refine sp ?_ ?_<;>intro z0;rotate_left
   ·have z0:¬(((said.map aE).length:Nat):Int)=0:=z0;rw[List.length_map]at z0;omega
   refine wh ?_;rw[oL];refine⟨l.length - (i+1),?_,om⟩;exact⟨[],[some 0,some 1,some 2,some 3],_,_,_,t3,⟨i+1,all,said,A,num,g,om,rfl,I.up om,om,by omega,DK,rfl,rfl,rfl⟩⟩
  have k0:¬pk=0:=k0;refine wh ?_;refine sp ?_ ?_<;>intro k1
  ·refine wh ?_;refine sp ?_ ?_<;>intro z0;rotate_left
   ·have z0:¬(((said.map aE).length:Nat):Int)=0:=z0;rw[List.length_map]at z0;omega
   refine wh ?_;rw[oL];refine⟨l.length - (i+1),?_,om⟩;exact⟨[],[some 0,some 1,some 2,some 3],_,_,_,t3,⟨i+1,all,said,A,num,g,om,rfl,I.up om,om,by omega,DK,rfl,rfl,rfl⟩⟩
  have k1:¬pk=1:=k1;refine wh ?_;refine sp ?_ ?_<;>intro k2
  ·have k2:pk=2:=k2;have q1:=Int.emod_nonneg pi (show(n:Int)≠0 by omega);have q2:=Int.emod_lt_of_pos pi (show(0:Int)<(n:Int) by omega);obtain⟨q,hq⟩:∃q:Nat,pi % (n:Int)=q:=⟨(pi % (n:Int)).toNat,om⟩;have hqn:q<n:=by omega
   obtain⟨s',ms,V,O⟩:=I.Vn (show num≤1000 by omega) om (j:=(q:Int)+1) om om;have O:qC n ((i+1:Nat):Int) (all.set ((q:Int)+1 - 1).toNat s') said A num ms:=O;refine wh ?_;rw[MF om om];dsimp only
   rw[hq];refine wh ?_;refine⟨⟨om,by rw[vu];omega⟩,?_⟩;refine wh ?_;refine⟨fun hz=>?_,fun hz=>?_⟩
   ·have hz:(q:Int).toNat=n - 1:=hz;have ej:(q:Int)+1=n:=by omega
    rw[ej]at V O;have e2:sv (all.set ((n:Int) - 1).toNat s') n=s':=by rw[gg om om,if_pos rfl]
    have e3:=jW cW s';refine wh ?_;refine⟨[],[some 1],_,_,_,_,V,t3,cw ?_⟩;have eN:[(0,TO.bx 1 ((jV n all)) [(n - 1,[.ptr 1 0])]),(1,mB (s')),(2,eP (said)),(3,eK (A)),(4,eP (ms))]=oM n ((all.set ((n:Int) - 1).toNat s')) (said) (A) (ms):=by
     unfold oM;rw[e2];(rw[e3])
    refine wh ?_;refine⟨[],[some 0,some 1,some 2,some 3,some 6],_,_,_,⟨tq,.cons tq (.cons tq (.cons tq (.cons tq (.cons tq .nil)))),by rfl⟩,⟨(all.set ((n:Int) - 1).toNat s'),said,ms,A,num,O,om,om,om,rfl,rfl,eN⟩⟩
   ·have hz:¬(q:Int).toNat=n - 1:=hz;have ej:(q:Int)+1 - 1=q:=by omega
    have eC:=lW cW (j:=(q:Int)+1) om om;have cQ:=lX cW (j:=(q:Int)+1) om om s';have e2:sv (all.set ((q:Int)+1 - 1).toNat s') n=sv all n:=by rw[gg om om,if_neg om]
    rw[ej]at O eC cQ e2;refine⟨mC (sv all ((q:Int)+1)),eC,?_⟩;refine wh ?_;refine⟨[],[some 5],_,_,_,_,V,t3,cw ?_⟩;have eN:[(0,TO.bx 1 ((jV n (all.set (q:Int).toNat s'))) [(n - 1,[.ptr 1 0])]),(1,mB ((sv all n))),(2,eP (said)),(3,eK (A)),(4,eP (ms))]=oM n ((all.set (q:Int).toNat s')) (said) (A) (ms):=by
     unfold oM;rw[e2];skip
    refine wh ?_;refine⟨[],[some 0,some 1,some 2,some 3,some 7],_,_,_,⟨tq,.cons (.rI hz (Lw.of cQ) tq tq) (.cons tq (.cons tq (.cons tq (.cons tq .nil)))),by rfl⟩,⟨(all.set (q:Int).toNat s'),said,ms,A,num,O,om,om,om,rfl,rfl,eN⟩⟩
  have k2:¬pk=2:=k2;refine wh ?_;refine sp ?_ ?_<;>intro k3
  ·have k3:pk=3:=k3;have J2:0≤num:=I.ci.num;have Dp:IntKind.u64.wrap (num+1)=num+1:=IntWalk.u64_in _ om;have ht3:pi.tmod 3=pi % 3:=Int.tmod_eq_emod_of_nonneg om;have zp:IntKind.u32.wrap (pi % 3)=pi % 3:=IntWalk.u32_in _ om;obtain⟨s',ms,V,O⟩:=I.QE (show num≤900 by omega) (u:=⟨0,1,num+1,2,pi % 3,0,[(num+1) % 256]⟩) (fun s=>⟨rfl,rfl,by show(1:Int)≤1∧(1:Int)≤6;decide,⟨by show 1≤num+1;omega,Int.le_refl _⟩,by show 0≤pi % 3∧pi % 3≤4;omega,by show 1≤2048;decide⟩) rfl (by show num<num+1;omega) (T2:=((i+1:Nat):Int)) om;have hu8:IntKind.u8.wrap (num+1)=(num+1) % 256:=rfl;refine wh ?_;rw[Dp];dsimp only
   rw[ht3,zp,hu8];refine⟨⟨by decide,by rw[vu];omega⟩,?_⟩;refine wh ?_;refine⟨fun hz=>?_,fun hz=>?_⟩
   ·have hz:(0:Int).toNat=n - 1:=hz;have ej:(1:Int)=n:=by omega
    have O:qC n ((i+1:Nat):Int) (all.set ((n:Int) - 1).toNat s') said A (num+1) ms:=by
     rw[show(n:Int) - 1=1 - 1 by omega];exact O
    rw[show sv all 1=sv all n by rw[←ej]]at V;have e2:sv (all.set ((n:Int) - 1).toNat s') n=s':=by rw[gg om om,if_pos rfl]
    have e3:=jW cW s';refine wh ?_;refine⟨[7],[some 1],_,_,_,_,V,t3,?_⟩;rintro r o' c' (⟨rfl,rfl,rfl,rfl⟩|⟨rfl,rfl,rfl⟩)
    ·have eN:[(0,TO.bx 1 ((jV n all)) [(n - 1,[.ptr 1 0])]),(1,mB (s')),(2,eP (said)),(3,eK (A)),(4,eP ([]))]=oM n ((all.set ((n:Int) - 1).toNat s')) (said) (A) ([]):=by
      unfold oM;rw[e2];(rw[e3])
     refine wh ?_;refine⟨[],[some 0,some 1,some 2,some 3,none],_,_,_,⟨tq,.cons tq (.cons tq (.cons tq (.cons tq (.cons tq .nil)))),by rfl⟩,⟨(all.set ((n:Int) - 1).toNat s'),said,[],A,(num+1),O,om,om,om,rfl,rfl,eN⟩⟩
    ·have eN:[(0,TO.bx 1 ((jV n all)) [(n - 1,[.ptr 1 0])]),(1,mB (s')),(2,eP (said)),(3,eK (A)),(4,eP (ms))]=oM n ((all.set ((n:Int) - 1).toNat s')) (said) (A) (ms):=by
      unfold oM;rw[e2];(rw[e3])
     refine wh ?_;refine⟨[],[some 0,some 1,some 2,some 3,some 9],_,_,_,⟨tq,.cons tq (.cons tq (.cons tq (.cons tq (.cons tq .nil)))),by rfl⟩,⟨(all.set ((n:Int) - 1).toNat s'),said,ms,A,(num+1),O,om,om,om,rfl,rfl,eN⟩⟩
   ·have hz:¬(0:Int).toNat=n - 1:=hz;have ej:(1:Int) - 1=0:=rfl;have eC:=lW cW (j:=1) om om;have cQ:=lX cW (j:=1) om om s';have e2:sv (all.set ((1:Int) - 1).toNat s') n=sv all n:=by rw[gg om om,if_neg om]
    rw[ej]at O eC cQ e2;refine⟨mC (sv all 1),eC,?_⟩;refine wh ?_;refine⟨[8],[some 7],_,_,_,_,V,t3,?_⟩;rintro r o' c' (⟨rfl,rfl,rfl,rfl⟩|⟨rfl,rfl,rfl⟩)
    ·have eN:[(0,TO.bx 1 ((jV n (all.set (0:Int).toNat s'))) [(n - 1,[.ptr 1 0])]),(1,mB ((sv all n))),(2,eP (said)),(3,eK (A)),(4,eP ([]))]=oM n ((all.set (0:Int).toNat s')) (said) (A) ([]):=by
      unfold oM;rw[e2];skip
     refine wh ?_;refine⟨[],[some 0,some 1,some 2,some 3,none],_,_,_,⟨tq,.cons (.rI hz (Lw.of cQ) tq tq) (.cons tq (.cons tq (.cons tq (.cons tq .nil)))),by rfl⟩,⟨(all.set (0:Int).toNat s'),said,[],A,(num+1),O,om,om,om,rfl,rfl,eN⟩⟩
    ·have eN:[(0,TO.bx 1 ((jV n (all.set (0:Int).toNat s'))) [(n - 1,[.ptr 1 0])]),(1,mB ((sv all n))),(2,eP (said)),(3,eK (A)),(4,eP (ms))]=oM n ((all.set (0:Int).toNat s')) (said) (A) (ms):=by
      unfold oM;rw[e2];skip
     refine wh ?_;refine⟨[],[some 0,some 1,some 2,some 3,some 10],_,_,_,⟨tq,.cons (.rI hz (Lw.of cQ) tq tq) (.cons tq (.cons tq (.cons tq (.cons tq .nil)))),by rfl⟩,⟨(all.set (0:Int).toNat s'),said,ms,A,(num+1),O,om,om,om,rfl,rfl,eN⟩⟩
  have k3:¬pk=3:=k3;have J2:0≤num:=I.ci.num;have Dp:IntKind.u64.wrap (num+1)=num+1:=IntWalk.u64_in _ om;have q1:=Int.emod_nonneg pi (show(n:Int)≠0 by omega);have q2:=Int.emod_lt_of_pos pi (show(0:Int)<(n:Int) by omega);obtain⟨q,hq⟩:∃q:Nat,pi % (n:Int)=q:=⟨(pi % (n:Int)).toNat,om⟩;have hqn:q<n:=by omega
  have Dv:IntKind.i64.wrap (1+(q:Int))=(q:Int)+1:=by rw[IntWalk.i64_in _ om];omega
  have xT:IntKind.i64.wrap ((q:Int)+1 - 1)=(q:Int):=by rw[IntWalk.i64_in _ om];omega
  refine wh ?_;rw[Dp];rw[MF om om];dsimp only
  rw[hq];have hT0:=lV (sv all n) (I.P9 om om (Int.le_refl _));have hd4:pi.tdiv 4=pi / 4:=Int.tdiv_eq_ediv_of_nonneg om;have X4:(pi / 4).tmod 3=pi / 4 % 3:=Int.tmod_eq_emod_of_nonneg om;have VB:pi.tmod 2=pi % 2:=Int.tmod_eq_emod_of_nonneg om;have zp:IntKind.u32.wrap (pi / 4 % 3)=pi / 4 % 3:=IntWalk.u32_in _ om;have hf:IntKind.i64.wrap (202+pi % 2)=202+pi % 2:=IntWalk.i64_in _ om;have M4:IntKind.i64.wrap (pi.tdiv 4)=pi / 4:=by rw[hd4,IntWalk.i64_in _ om]
  obtain⟨s',ms,V,O⟩:=I.Vo (show num≤900 by omega) (j:=(q:Int)+1) om om (f:=202+pi % 2) (key:=pi / 4 % 3) om om (T2:=((i+1:Nat):Int)) om;refine wh ?_;refine⟨[],[some 1],_,_,_,_,hT0,t3,cw ?_⟩;rw[Dv,M4,X4,zp];refine⟨by rw[List.length_map];simp;omega,?_⟩;refine wh ?_;rw[xT];refine⟨⟨om,by rw[vu];omega⟩,?_⟩;refine wh ?_;refine⟨fun hz=>?_,fun hz=>?_⟩
  ·have hz:(q:Int).toNat=n - 1:=hz;have ej:(q:Int)+1=n:=by omega
   have O:qC n ((i+1:Nat):Int) (all.set ((n:Int) - 1).toNat s') said (A++[⟨num+1,pi / 4 % 3,aR (sv all n) 0,aR (sv all n) 1,aR (sv all n) 2⟩]) (num+1) ms:=by
    rw[show(n:Int) - 1=(q:Int)+1 - 1 by omega];exact O
   rw[show sv all ((q:Int)+1)=sv all n by rw[ej]]at V;have e2:sv (all.set ((n:Int) - 1).toNat s') n=s':=by rw[gg om om,if_pos rfl]
   have e3:=jW cW s';refine wh ?_;rw[VB,hf,M4,X4,zp];refine⟨[],[some 1],_,_,_,_,V,t3,?_⟩;rintro r o' c' (⟨rfl,rfl,rfl,rfl⟩|⟨rfl,rfl,rfl⟩)
   ·have eN:[(0,TO.bx 1 ((jV n all)) [(n - 1,[.ptr 1 0])]),(1,mB (s')),(2,eP (said)),(3,eK ((A++[⟨num+1,pi / 4 % 3,aR (sv all n) 0,aR (sv all n) 1,aR (sv all n) 2⟩]))),(4,eP ([]))]=oM n ((all.set ((n:Int) - 1).toNat s')) (said) ((A++[⟨num+1,pi / 4 % 3,aR (sv all n) 0,aR (sv all n) 1,aR (sv all n) 2⟩])) ([]):=by
     unfold oM;rw[e2];(rw[e3])
    refine wh ?_;refine⟨[],[some 0,some 1,some 2,some 7,none],_,_,_,⟨tq,.cons tq (.cons tq (.cons tq (.cons (.arr (Lz.of (Ga A ⟨num+1,pi / 4 % 3,aR (sv all n) 0,aR (sv all n) 1,aR (sv all n) 2⟩))) (.cons tq .nil)))),by rfl⟩,⟨(all.set ((n:Int) - 1).toNat s'),said,[],(A++[⟨num+1,pi / 4 % 3,aR (sv all n) 0,aR (sv all n) 1,aR (sv all n) 2⟩]),(num+1),O,om,(Gb Vp),om,rfl,rfl,eN⟩⟩
   ·have eN:[(0,TO.bx 1 ((jV n all)) [(n - 1,[.ptr 1 0])]),(1,mB (s')),(2,eP (said)),(3,eK ((A++[⟨num+1,pi / 4 % 3,aR (sv all n) 0,aR (sv all n) 1,aR (sv all n) 2⟩]))),(4,eP (ms))]=oM n ((all.set ((n:Int) - 1).toNat s')) (said) ((A++[⟨num+1,pi / 4 % 3,aR (sv all n) 0,aR (sv all n) 1,aR (sv all n) 2⟩])) (ms):=by
     unfold oM;rw[e2];(rw[e3])
    refine wh ?_;refine⟨[],[some 0,some 1,some 2,some 7,some 9],_,_,_,⟨tq,.cons tq (.cons tq (.cons tq (.cons (.arr (Lz.of (Ga A ⟨num+1,pi / 4 % 3,aR (sv all n) 0,aR (sv all n) 1,aR (sv all n) 2⟩))) (.cons tq .nil)))),by rfl⟩,⟨(all.set ((n:Int) - 1).toNat s'),said,ms,(A++[⟨num+1,pi / 4 % 3,aR (sv all n) 0,aR (sv all n) 1,aR (sv all n) 2⟩]),(num+1),O,om,(Gb Vp),om,rfl,rfl,eN⟩⟩
  ·have hz:¬(q:Int).toNat=n - 1:=hz;have ej:(q:Int)+1 - 1=q:=by omega
   have eC:=lW cW (j:=(q:Int)+1) om om;have cQ:=lX cW (j:=(q:Int)+1) om om s';have e2:sv (all.set ((q:Int)+1 - 1).toNat s') n=sv all n:=by rw[gg om om,if_neg om]
   rw[ej]at O eC cQ e2;refine⟨mC (sv all ((q:Int)+1)),eC,?_⟩;refine wh ?_;rw[VB,hf,M4,X4,zp];refine⟨[],[some 8],_,_,_,_,V,t3,?_⟩;rintro r o' c' (⟨rfl,rfl,rfl,rfl⟩|⟨rfl,rfl,rfl⟩)
   ·have eN:[(0,TO.bx 1 ((jV n (all.set (q:Int).toNat s'))) [(n - 1,[.ptr 1 0])]),(1,mB ((sv all n))),(2,eP (said)),(3,eK ((A++[⟨num+1,pi / 4 % 3,aR (sv all n) 0,aR (sv all n) 1,aR (sv all n) 2⟩]))),(4,eP ([]))]=oM n ((all.set (q:Int).toNat s')) (said) ((A++[⟨num+1,pi / 4 % 3,aR (sv all n) 0,aR (sv all n) 1,aR (sv all n) 2⟩])) ([]):=by
     unfold oM;rw[e2];skip
    refine wh ?_;refine⟨[],[some 0,some 1,some 2,some 7,none],_,_,_,⟨tq,.cons (.rI hz (Lw.of cQ) tq tq) (.cons tq (.cons tq (.cons (.arr (Lz.of (Ga A ⟨num+1,pi / 4 % 3,aR (sv all n) 0,aR (sv all n) 1,aR (sv all n) 2⟩))) (.cons tq .nil)))),by rfl⟩,⟨(all.set (q:Int).toNat s'),said,[],(A++[⟨num+1,pi / 4 % 3,aR (sv all n) 0,aR (sv all n) 1,aR (sv all n) 2⟩]),(num+1),O,om,(Gb Vp),om,rfl,rfl,eN⟩⟩
   ·have eN:[(0,TO.bx 1 ((jV n (all.set (q:Int).toNat s'))) [(n - 1,[.ptr 1 0])]),(1,mB ((sv all n))),(2,eP (said)),(3,eK ((A++[⟨num+1,pi / 4 % 3,aR (sv all n) 0,aR (sv all n) 1,aR (sv all n) 2⟩]))),(4,eP (ms))]=oM n ((all.set (q:Int).toNat s')) (said) ((A++[⟨num+1,pi / 4 % 3,aR (sv all n) 0,aR (sv all n) 1,aR (sv all n) 2⟩])) (ms):=by
     unfold oM;rw[e2];skip
    refine wh ?_;refine⟨[],[some 0,some 1,some 2,some 7,some 10],_,_,_,⟨tq,.cons (.rI hz (Lw.of cQ) tq tq) (.cons tq (.cons tq (.cons (.arr (Lz.of (Ga A ⟨num+1,pi / 4 % 3,aR (sv all n) 0,aR (sv all n) 1,aR (sv all n) 2⟩))) (.cons tq .nil)))),by rfl⟩,⟨(all.set (q:Int).toNat s'),said,ms,(A++[⟨num+1,pi / 4 % 3,aR (sv all n) 0,aR (sv all n) 1,aR (sv all n) 2⟩]),(num+1),O,om,(Gb Vp),om,rfl,rfl,eN⟩⟩
 have mK:(((said.map aE).length:Nat):Int)>0:=mK;rw[List.length_map]at mK;refine wh ?_;rw[MF om (by rw[List.length_map];omega)];cases late;rotate_left
 focus
  obtain⟨a,ha⟩:∃a:Nat,pi % ((said.map aE).length:Int)=a:=⟨(pi % ((said.map aE).length:Int)).toNat,by have:=Int.emod_nonneg pi (show((said.map aE).length:Int)≠0 by rw[List.length_map];omega);omega⟩;have haS:a<said.length:=by
   have:=Int.emod_lt_of_pos pi (show(0:Int)<((said.map aE).length:Int) by rw[List.length_map];omega);rw[List.length_map]at ha this;omega
  refine wh ?_;dsimp only
  rw[ha];clear ha
 rotate_left
 focus
  refine wh ?_;rw[MF om (by rw[List.length_map];split<;>omega)];have YG:0<(if(8:Int)<(((said.map aE).length:Nat):Int)then(8:Int)else(((said.map aE).length:Nat):Int))∧(if(8:Int)<(((said.map aE).length:Nat):Int)then(8:Int)else(((said.map aE).length:Nat):Int))≤said.length:=by rw[List.length_map];split<;>omega
  generalize (if(8:Int)<(((said.map aE).length:Nat):Int)then(8:Int)else(((said.map aE).length:Nat):Int))=mn at YG ⊢;have Nd:=Int.emod_nonneg pi (show mn≠0 by omega);have jX:=Int.emod_lt_of_pos pi YG.1;refine wh ?_;have Dv:IntKind.i64.wrap ((((said.map aE).length:Nat):Int) - 1)=(((said.map aE).length:Nat):Int) - 1:=IntWalk.i64_in _ (by rw[List.length_map];omega);rw[Dv];have xT:IntKind.i64.wrap ((((said.map aE).length:Nat):Int) - 1 - pi % mn)=(((said.map aE).length:Nat):Int) - 1 - pi % mn:=IntWalk.i64_in _ (by rw[List.length_map];omega);rw[xT]
  obtain⟨a,ha⟩:∃a:Nat,(((said.map aE).length:Nat):Int) - 1 - pi % mn=a:=⟨((((said.map aE).length:Nat):Int) - 1 - pi % mn).toNat,by rw[List.length_map];omega⟩;have haS:a<said.length:=by rw[List.length_map]at ha;omega
  rw[ha];clear ha
 all_goals
  refine wh ?_;refine⟨fun f o c=>∃(al:List eB) (sd ms:List Lr) (A':List ig) (nm:Int),qC n ((i+1:Nat):Int) al sd A' nm ms∧nm≤(i:Int)+1∧A'.length≤i+1∧sd.length≤1500∧c=5∧f=[(0,.s (.int .i64 n)),(1,.sl 4 (l.map tQ) false),(5,.tk 0),(6,.ptr 1 0),(7,.tk 2),(8,.tk 3),(9,.s (.int .u64 nm)),(10,.s (.int .i64 i)),(14,.tk 4)]∧o=oM n al sd A' ms,?_,?_⟩;rotate_left
  ·rintro f1 o1 c1 ⟨al,sd,ms,A',nm,O,Uw,hA',Yw,rfl,rfl,rfl⟩;obtain⟨⟨g',I'⟩,X3,hml,ly⟩:=O;have hT:=lV (sv al n) X3;have hTo:=BA ms A' (aR (sv al n) 0) (aR (sv al n) 1) (aR (sv al n) 2) om om ly;have hKe:=J6 sd ms n om om;refine wh ?_;refine⟨[],[some 1],_,_,_,_,hT,t3,cw ?_⟩;refine⟨[],[some 4,some 3],_,_,_,_,hTo,t3,cw ?_⟩;refine⟨[],[some 2,some 4],_,_,_,_,hKe,t3,?_⟩;rintro r o' c' (⟨h0,rfl,rfl,rfl⟩|⟨rfl,rfl,rfl⟩)
   ·have eN:[(0,TO.bx 1 (jV n al) [(n - 1,[.ptr 1 0])]),(1,mB (sv al n)),(2,eP sd),(3,eK A')]=oV n al (sd++uV n ms) A':=by
     unfold oV;rw[h0,List.append_nil]
    refine wh ?_;refine sp ?_ ?_<;>intro TZ
    ·refine wh ?_;refine⟨[],[],_,_,_,_,gk,t3,cw ?_⟩;exact⟨[],[],_,_,_,t3,rfl⟩
    refine wh ?_;rw[oL];refine⟨l.length - (i+1),?_,om⟩;exact⟨[],[some 0,some 1,some 2,some 3],_,_,_,t3,⟨i+1,al,sd++uV n ms,A',nm,g',om,rfl,I',om,by omega,by rw[h0,List.append_nil];omega,rfl,rfl,eN⟩⟩
   ·have eN:[(0,TO.bx 1 (jV n al) [(n - 1,[.ptr 1 0])]),(1,mB (sv al n)),(2,eP (sd++uV n ms)),(3,eK A')]=oV n al (sd++uV n ms) A':=rfl;refine wh ?_;refine sp ?_ ?_<;>intro TZ
    ·refine wh ?_;refine⟨[],[],_,_,_,_,gk,t3,cw ?_⟩;exact⟨[],[],_,_,_,t3,rfl⟩
    have TZ:¬((((sd++uV n ms).map aE).length:Nat):Int)>1500:=TZ;rw[List.length_map]at TZ;refine wh ?_;rw[oL];refine⟨l.length - (i+1),?_,om⟩;exact⟨[],[some 0,some 1,some 10,some 3],_,_,_,t3,⟨i+1,al,sd++uV n ms,A',nm,g',om,rfl,I',om,by omega,om,rfl,rfl,eN⟩⟩
  refine wh ?_;refine sp ?_ ?_<;>intro k0
  ·obtain rfl:pk=0:=k0;refine wh ?_;refine sp ?_ ?_<;>intro z0
   ·have z0:(((said.map aE).length:Nat):Int)=0:=z0;rw[List.length_map]at z0;omega
   have gm:(said.map aE)[(a:Int).toNat]? =some (aE said[a]):=by rw[Int.toNat_natCast,List.getElem?_map,List.getElem?_eq_getElem haS];rfl
   have hm:=List.getElem_mem haS;have X5:=J9 said a;have bT:(said.take a++said.drop (a+1)).length≤1500:=by rw[List.length_append,List.length_take,List.length_drop];omega
   have iO:∀m∈said.take a++said.drop (a+1),m∈said:=fun m hm=>(List.mem_append.1 hm).elim List.mem_of_mem_take List.mem_of_mem_drop;generalize said[a]=m at gm hm;have XV:IntKind.i64.wrap ((a:Int)+1)=((a+1:Nat):Int):=IntWalk.i64_in _ om;refine wh ?_;refine⟨⟨om,by rw[List.length_map];omega⟩,?_⟩;refine wh ?_;refine⟨aE m,gm,?_⟩;refine wh ?_;refine sp ?_ ?_<;>intro e0
   ·exact absurd e0 (show¬(0:Int)=1 by decide)
   cases QD with
   |true=>
    refine wh ?_;refine sp ?_ ?_<;>intro e1;rotate_left
    ·exact absurd rfl e1
    refine wh ?_;refine sp ?_ ?_<;>intro tn;rotate_left
    ·refine wh ?_;have O:=I.stay (show num≤1000 by omega) (fun m h=>h) (T2:=((i+1:Nat):Int)) om;have e2:sv all n=sv all n:=rfl;have eN:[(0,TO.bx 1 ((jV n all)) [(n - 1,[.ptr 1 0])]),(1,mB ((sv all n))),(2,eP ((said))),(3,eK (A)),(4,eP ([]))]=oM n (all) ((said)) (A) ([]):=by
      unfold oM;rw[e2];skip
     refine wh ?_;refine⟨[],[some 0,some 1,some 2,some 3,none],_,_,_,⟨tq,.cons tq (.cons tq (.cons tq (.cons tq (.cons tq .nil)))),by rfl⟩,⟨all,(said),[],A,num,O,om,om,om,rfl,rfl,eN⟩⟩
    have tn:m.to≤n:=tn;obtain⟨s',ms,V,O⟩:=I.take (show num≤1000 by omega) hm (j:=m.to) tn rfl (cV:=said) (fun m h=>h) (T2:=((i+1:Nat):Int)) om;have ae1:=I.to1 hm;have wj:IntKind.i64.wrap (m.to - 1)=m.to - 1:=IntWalk.i64_in _ om;refine wh ?_;rw[wj];refine⟨⟨om,by rw[vu];omega⟩,?_⟩;refine wh ?_;refine⟨fun hz=>?_,fun hz=>?_⟩
    ·have hz:(m.to - 1).toNat=n - 1:=hz;have ej:m.to=n:=by omega
     have O:qC n ((i+1:Nat):Int) (all.set ((n:Int) - 1).toNat s') (said) A num ms:=by
      rw[show(n:Int) - 1=m.to - 1 by omega];exact O
     rw[show sv all m.to=sv all n by rw[ej]]at V;have e2:sv (all.set ((n:Int) - 1).toNat s') n=s':=by rw[gg om om,if_pos rfl]
     have e3:=jW cW s';refine wh ?_;refine⟨[],[some 1],_,_,_,_,V,t3,?_⟩;rintro r o' c' (⟨rfl,rfl,rfl,rfl⟩|⟨rfl,rfl,rfl⟩)
     ·have eN:[(0,TO.bx 1 ((jV n all)) [(n - 1,[.ptr 1 0])]),(1,mB (s')),(2,eP ((said))),(3,eK (A)),(4,eP ([]))]=oM n ((all.set ((n:Int) - 1).toNat s')) ((said)) (A) ([]):=by
       unfold oM;rw[e2];(rw[e3])
      refine wh ?_;refine⟨[],[some 0,some 1,some 2,some 3,none],_,_,_,⟨tq,.cons tq (.cons tq (.cons tq (.cons tq (.cons tq .nil)))),by rfl⟩,⟨(all.set ((n:Int) - 1).toNat s'),(said),[],A,num,O,om,om,om,rfl,rfl,eN⟩⟩
     ·have eN:[(0,TO.bx 1 ((jV n all)) [(n - 1,[.ptr 1 0])]),(1,mB (s')),(2,eP ((said))),(3,eK (A)),(4,eP (ms))]=oM n ((all.set ((n:Int) - 1).toNat s')) ((said)) (A) (ms):=by
       unfold oM;rw[e2];(rw[e3])
      refine wh ?_;refine⟨[],[some 0,some 1,some 2,some 3,some 7],_,_,_,⟨tq,.cons tq (.cons tq (.cons tq (.cons tq (.cons tq .nil)))),by rfl⟩,⟨(all.set ((n:Int) - 1).toNat s'),(said),ms,A,num,O,om,om,om,rfl,rfl,eN⟩⟩
    ·have hz:¬(m.to - 1).toNat=n - 1:=hz;have eC:=lW cW (j:=m.to) om om;have cQ:=lX cW (j:=m.to) om om s';have e2:sv (all.set (m.to - 1).toNat s') n=sv all n:=by rw[gg om om,if_neg om]
     refine⟨mC (sv all m.to),eC,?_⟩;refine wh ?_;refine⟨[],[some 6],_,_,_,_,V,t3,?_⟩;rintro r o' c' (⟨rfl,rfl,rfl,rfl⟩|⟨rfl,rfl,rfl⟩)
     ·have eN:[(0,TO.bx 1 ((jV n (all.set (m.to - 1).toNat s'))) [(n - 1,[.ptr 1 0])]),(1,mB ((sv all n))),(2,eP ((said))),(3,eK (A)),(4,eP ([]))]=oM n ((all.set (m.to - 1).toNat s')) ((said)) (A) ([]):=by
       unfold oM;rw[e2];skip
      refine wh ?_;refine⟨[],[some 0,some 1,some 2,some 3,none],_,_,_,⟨tq,.cons (.rI hz (Lw.of cQ) tq tq) (.cons tq (.cons tq (.cons tq (.cons tq .nil)))),by rfl⟩,⟨(all.set (m.to - 1).toNat s'),(said),[],A,num,O,om,om,om,rfl,rfl,eN⟩⟩
     ·have eN:[(0,TO.bx 1 ((jV n (all.set (m.to - 1).toNat s'))) [(n - 1,[.ptr 1 0])]),(1,mB ((sv all n))),(2,eP ((said))),(3,eK (A)),(4,eP (ms))]=oM n ((all.set (m.to - 1).toNat s')) ((said)) (A) (ms):=by
       unfold oM;rw[e2];skip
      refine wh ?_;refine⟨[],[some 0,some 1,some 2,some 3,some 8],_,_,_,⟨tq,.cons (.rI hz (Lw.of cQ) tq tq) (.cons tq (.cons tq (.cons tq (.cons tq .nil)))),by rfl⟩,⟨(all.set (m.to - 1).toNat s'),(said),ms,A,num,O,om,om,om,rfl,rfl,eN⟩⟩
   |false=>
    refine wh ?_;refine⟨⟨om,om,by rw[List.length_map];omega⟩,.inl ?_⟩;refine wh ?_;refine⟨by simp;omega,?_⟩;refine wh ?_;rw[XV];refine⟨⟨om,by rw[List.length_map];omega,by rw[List.length_map];omega⟩,.inl ?_⟩;refine wh ?_;refine⟨by simp;omega,?_⟩;refine wh ?_;refine sp ?_ ?_<;>intro e1;rotate_left
    ·exact absurd rfl e1
    refine wh ?_;refine sp ?_ ?_<;>intro tn;rotate_left
    ·refine wh ?_;have O:=I.stay (show num≤1000 by omega) iO (T2:=((i+1:Nat):Int)) om;have e2:sv all n=sv all n:=rfl;have eN:[(0,TO.bx 1 ((jV n all)) [(n - 1,[.ptr 1 0])]),(1,mB ((sv all n))),(2,eP ((said.take a++said.drop (a+1)))),(3,eK (A)),(4,eP ([]))]=oM n (all) ((said.take a++said.drop (a+1))) (A) ([]):=by
      unfold oM;rw[e2];skip
     refine wh ?_;refine⟨[],[some 0,some 1,some 7,some 3,none],_,_,_,⟨tq,.cons tq (.cons tq (.cons (.arr (Lz.of X5)) (.cons tq (.cons tq .nil)))),by rfl⟩,⟨all,(said.take a++said.drop (a+1)),[],A,num,O,om,om,om,rfl,rfl,eN⟩⟩
    have tn:m.to≤n:=tn;obtain⟨s',ms,V,O⟩:=I.take (show num≤1000 by omega) hm (j:=m.to) tn rfl (cV:=said.take a++said.drop (a+1)) iO (T2:=((i+1:Nat):Int)) om;have ae1:=I.to1 hm;have wj:IntKind.i64.wrap (m.to - 1)=m.to - 1:=IntWalk.i64_in _ om;refine wh ?_;rw[wj];refine⟨⟨om,by rw[vu];omega⟩,?_⟩;refine wh ?_;refine⟨fun hz=>?_,fun hz=>?_⟩
    ·have hz:(m.to - 1).toNat=n - 1:=hz;have ej:m.to=n:=by omega
     have O:qC n ((i+1:Nat):Int) (all.set ((n:Int) - 1).toNat s') (said.take a++said.drop (a+1)) A num ms:=by
      rw[show(n:Int) - 1=m.to - 1 by omega];exact O
     rw[show sv all m.to=sv all n by rw[ej]]at V;have e2:sv (all.set ((n:Int) - 1).toNat s') n=s':=by rw[gg om om,if_pos rfl]
     have e3:=jW cW s';refine wh ?_;refine⟨[],[some 1],_,_,_,_,V,t3,?_⟩;rintro r o' c' (⟨rfl,rfl,rfl,rfl⟩|⟨rfl,rfl,rfl⟩)
     ·have eN:[(0,TO.bx 1 ((jV n all)) [(n - 1,[.ptr 1 0])]),(1,mB (s')),(2,eP ((said.take a++said.drop (a+1)))),(3,eK (A)),(4,eP ([]))]=oM n ((all.set ((n:Int) - 1).toNat s')) ((said.take a++said.drop (a+1))) (A) ([]):=by
       unfold oM;rw[e2];(rw[e3])
      refine wh ?_;refine⟨[],[some 0,some 1,some 7,some 3,none],_,_,_,⟨tq,.cons tq (.cons tq (.cons (.arr (Lz.of X5)) (.cons tq (.cons tq .nil)))),by rfl⟩,⟨(all.set ((n:Int) - 1).toNat s'),(said.take a++said.drop (a+1)),[],A,num,O,om,om,om,rfl,rfl,eN⟩⟩
     ·have eN:[(0,TO.bx 1 ((jV n all)) [(n - 1,[.ptr 1 0])]),(1,mB (s')),(2,eP ((said.take a++said.drop (a+1)))),(3,eK (A)),(4,eP (ms))]=oM n ((all.set ((n:Int) - 1).toNat s')) ((said.take a++said.drop (a+1))) (A) (ms):=by
       unfold oM;rw[e2];(rw[e3])
      refine wh ?_;refine⟨[],[some 0,some 1,some 7,some 3,some 9],_,_,_,⟨tq,.cons tq (.cons tq (.cons (.arr (Lz.of X5)) (.cons tq (.cons tq .nil)))),by rfl⟩,⟨(all.set ((n:Int) - 1).toNat s'),(said.take a++said.drop (a+1)),ms,A,num,O,om,om,om,rfl,rfl,eN⟩⟩
    ·have hz:¬(m.to - 1).toNat=n - 1:=hz;have eC:=lW cW (j:=m.to) om om;have cQ:=lX cW (j:=m.to) om om s';have e2:sv (all.set (m.to - 1).toNat s') n=sv all n:=by rw[gg om om,if_neg om]
     refine⟨mC (sv all m.to),eC,?_⟩;refine wh ?_;refine⟨[],[some 8],_,_,_,_,V,t3,?_⟩;rintro r o' c' (⟨rfl,rfl,rfl,rfl⟩|⟨rfl,rfl,rfl⟩)
     ·have eN:[(0,TO.bx 1 ((jV n (all.set (m.to - 1).toNat s'))) [(n - 1,[.ptr 1 0])]),(1,mB ((sv all n))),(2,eP ((said.take a++said.drop (a+1)))),(3,eK (A)),(4,eP ([]))]=oM n ((all.set (m.to - 1).toNat s')) ((said.take a++said.drop (a+1))) (A) ([]):=by
       unfold oM;rw[e2];skip
      refine wh ?_;refine⟨[],[some 0,some 1,some 7,some 3,none],_,_,_,⟨tq,.cons (.rI hz (Lw.of cQ) tq tq) (.cons tq (.cons (.arr (Lz.of X5)) (.cons tq (.cons tq .nil)))),by rfl⟩,⟨(all.set (m.to - 1).toNat s'),(said.take a++said.drop (a+1)),[],A,num,O,om,om,om,rfl,rfl,eN⟩⟩
     ·have eN:[(0,TO.bx 1 ((jV n (all.set (m.to - 1).toNat s'))) [(n - 1,[.ptr 1 0])]),(1,mB ((sv all n))),(2,eP ((said.take a++said.drop (a+1)))),(3,eK (A)),(4,eP (ms))]=oM n ((all.set (m.to - 1).toNat s')) ((said.take a++said.drop (a+1))) (A) (ms):=by
       unfold oM;rw[e2];skip
      refine wh ?_;refine⟨[],[some 0,some 1,some 7,some 3,some 10],_,_,_,⟨tq,.cons (.rI hz (Lw.of cQ) tq tq) (.cons tq (.cons (.arr (Lz.of X5)) (.cons tq (.cons tq .nil)))),by rfl⟩,⟨(all.set (m.to - 1).toNat s'),(said.take a++said.drop (a+1)),ms,A,num,O,om,om,om,rfl,rfl,eN⟩⟩
  have k0:¬pk=0:=k0;refine wh ?_;refine sp ?_ ?_<;>intro k1
  ·obtain rfl:pk=1:=k1;refine wh ?_;refine sp ?_ ?_<;>intro z0
   ·have z0:(((said.map aE).length:Nat):Int)=0:=z0;rw[List.length_map]at z0;omega
   have gm:(said.map aE)[(a:Int).toNat]? =some (aE said[a]):=by rw[Int.toNat_natCast,List.getElem?_map,List.getElem?_eq_getElem haS];rfl
   have hm:=List.getElem_mem haS;have X5:=J9 said a;have bT:(said.take a++said.drop (a+1)).length≤1500:=by rw[List.length_append,List.length_take,List.length_drop];omega
   have iO:∀m∈said.take a++said.drop (a+1),m∈said:=fun m hm=>(List.mem_append.1 hm).elim List.mem_of_mem_take List.mem_of_mem_drop;generalize said[a]=m at gm hm;have XV:IntKind.i64.wrap ((a:Int)+1)=((a+1:Nat):Int):=IntWalk.i64_in _ om;refine wh ?_;refine⟨⟨om,by rw[List.length_map];omega⟩,?_⟩;refine wh ?_;refine⟨aE m,gm,?_⟩;refine wh ?_;refine sp ?_ ?_<;>intro e0;rotate_left
   ·exact absurd rfl e0
   refine wh ?_;refine⟨⟨om,om,by rw[List.length_map];omega⟩,.inl ?_⟩;refine wh ?_;refine⟨by simp;omega,?_⟩;refine wh ?_;rw[XV];refine⟨⟨om,by rw[List.length_map];omega,by rw[List.length_map];omega⟩,.inl ?_⟩;refine wh ?_;refine⟨by simp;omega,?_⟩;refine wh ?_;refine sp ?_ ?_<;>intro e1
   ·exact absurd e1 (show¬(1:Int)=0 by decide)
   have O:=I.stay (show num≤1000 by omega) iO (T2:=((i+1:Nat):Int)) om;have e2:sv all n=sv all n:=rfl;have eN:[(0,TO.bx 1 ((jV n all)) [(n - 1,[.ptr 1 0])]),(1,mB ((sv all n))),(2,eP ((said.take a++said.drop (a+1)))),(3,eK (A)),(4,eP ([]))]=oM n (all) ((said.take a++said.drop (a+1))) (A) ([]):=by
    unfold oM;rw[e2];skip
   refine wh ?_;refine⟨[],[some 0,some 1,some 7,some 3,none],_,_,_,⟨tq,.cons tq (.cons tq (.cons (.arr (Lz.of X5)) (.cons tq (.cons tq .nil)))),by rfl⟩,⟨all,(said.take a++said.drop (a+1)),[],A,num,O,om,om,om,rfl,rfl,eN⟩⟩
  have k1:¬pk=1:=k1;refine wh ?_;refine sp ?_ ?_<;>intro k2
  ·have k2:pk=2:=k2;have q1:=Int.emod_nonneg pi (show(n:Int)≠0 by omega);have q2:=Int.emod_lt_of_pos pi (show(0:Int)<(n:Int) by omega);obtain⟨q,hq⟩:∃q:Nat,pi % (n:Int)=q:=⟨(pi % (n:Int)).toNat,om⟩;have hqn:q<n:=by omega
   obtain⟨s',ms,V,O⟩:=I.Vn (show num≤1000 by omega) om (j:=(q:Int)+1) om om;have O:qC n ((i+1:Nat):Int) (all.set ((q:Int)+1 - 1).toNat s') said A num ms:=O;refine wh ?_;rw[MF om om];dsimp only
   rw[hq];refine wh ?_;refine⟨⟨om,by rw[vu];omega⟩,?_⟩;refine wh ?_;refine⟨fun hz=>?_,fun hz=>?_⟩
   ·have hz:(q:Int).toNat=n - 1:=hz;have ej:(q:Int)+1=n:=by omega
    rw[ej]at V O;have e2:sv (all.set ((n:Int) - 1).toNat s') n=s':=by rw[gg om om,if_pos rfl]
    have e3:=jW cW s';refine wh ?_;refine⟨[],[some 1],_,_,_,_,V,t3,cw ?_⟩;have eN:[(0,TO.bx 1 ((jV n all)) [(n - 1,[.ptr 1 0])]),(1,mB (s')),(2,eP (said)),(3,eK (A)),(4,eP (ms))]=oM n ((all.set ((n:Int) - 1).toNat s')) (said) (A) (ms):=by
     unfold oM;rw[e2];(rw[e3])
    refine wh ?_;refine⟨[],[some 0,some 1,some 2,some 3,some 6],_,_,_,⟨tq,.cons tq (.cons tq (.cons tq (.cons tq (.cons tq .nil)))),by rfl⟩,⟨(all.set ((n:Int) - 1).toNat s'),said,ms,A,num,O,om,om,om,rfl,rfl,eN⟩⟩
   ·have hz:¬(q:Int).toNat=n - 1:=hz;have ej:(q:Int)+1 - 1=q:=by omega
    have eC:=lW cW (j:=(q:Int)+1) om om;have cQ:=lX cW (j:=(q:Int)+1) om om s';have e2:sv (all.set ((q:Int)+1 - 1).toNat s') n=sv all n:=by rw[gg om om,if_neg om]
    rw[ej]at O eC cQ e2;refine⟨mC (sv all ((q:Int)+1)),eC,?_⟩;refine wh ?_;refine⟨[],[some 5],_,_,_,_,V,t3,cw ?_⟩;have eN:[(0,TO.bx 1 ((jV n (all.set (q:Int).toNat s'))) [(n - 1,[.ptr 1 0])]),(1,mB ((sv all n))),(2,eP (said)),(3,eK (A)),(4,eP (ms))]=oM n ((all.set (q:Int).toNat s')) (said) (A) (ms):=by
     unfold oM;rw[e2];skip
    refine wh ?_;refine⟨[],[some 0,some 1,some 2,some 3,some 7],_,_,_,⟨tq,.cons (.rI hz (Lw.of cQ) tq tq) (.cons tq (.cons tq (.cons tq (.cons tq .nil)))),by rfl⟩,⟨(all.set (q:Int).toNat s'),said,ms,A,num,O,om,om,om,rfl,rfl,eN⟩⟩
  have k2:¬pk=2:=k2;refine wh ?_;refine sp ?_ ?_<;>intro k3
  ·have k3:pk=3:=k3;have J2:0≤num:=I.ci.num;have Dp:IntKind.u64.wrap (num+1)=num+1:=IntWalk.u64_in _ om;have ht3:pi.tmod 3=pi % 3:=Int.tmod_eq_emod_of_nonneg om;have zp:IntKind.u32.wrap (pi % 3)=pi % 3:=IntWalk.u32_in _ om;obtain⟨s',ms,V,O⟩:=I.QE (show num≤900 by omega) (u:=⟨0,1,num+1,2,pi % 3,0,[(num+1) % 256]⟩) (fun s=>⟨rfl,rfl,by show(1:Int)≤1∧(1:Int)≤6;decide,⟨by show 1≤num+1;omega,Int.le_refl _⟩,by show 0≤pi % 3∧pi % 3≤4;omega,by show 1≤2048;decide⟩) rfl (by show num<num+1;omega) (T2:=((i+1:Nat):Int)) om;have hu8:IntKind.u8.wrap (num+1)=(num+1) % 256:=rfl;refine wh ?_;rw[Dp];dsimp only
   rw[ht3,zp,hu8];refine⟨⟨by decide,by rw[vu];omega⟩,?_⟩;refine wh ?_;refine⟨fun hz=>?_,fun hz=>?_⟩
   ·have hz:(0:Int).toNat=n - 1:=hz;have ej:(1:Int)=n:=by omega
    have O:qC n ((i+1:Nat):Int) (all.set ((n:Int) - 1).toNat s') said A (num+1) ms:=by
     rw[show(n:Int) - 1=1 - 1 by omega];exact O
    rw[show sv all 1=sv all n by rw[←ej]]at V;have e2:sv (all.set ((n:Int) - 1).toNat s') n=s':=by rw[gg om om,if_pos rfl]
    have e3:=jW cW s';refine wh ?_;refine⟨[7],[some 1],_,_,_,_,V,t3,?_⟩;rintro r o' c' (⟨rfl,rfl,rfl,rfl⟩|⟨rfl,rfl,rfl⟩)
    ·have eN:[(0,TO.bx 1 ((jV n all)) [(n - 1,[.ptr 1 0])]),(1,mB (s')),(2,eP (said)),(3,eK (A)),(4,eP ([]))]=oM n ((all.set ((n:Int) - 1).toNat s')) (said) (A) ([]):=by
      unfold oM;rw[e2];(rw[e3])
     refine wh ?_;refine⟨[],[some 0,some 1,some 2,some 3,none],_,_,_,⟨tq,.cons tq (.cons tq (.cons tq (.cons tq (.cons tq .nil)))),by rfl⟩,⟨(all.set ((n:Int) - 1).toNat s'),said,[],A,(num+1),O,om,om,om,rfl,rfl,eN⟩⟩
    ·have eN:[(0,TO.bx 1 ((jV n all)) [(n - 1,[.ptr 1 0])]),(1,mB (s')),(2,eP (said)),(3,eK (A)),(4,eP (ms))]=oM n ((all.set ((n:Int) - 1).toNat s')) (said) (A) (ms):=by
      unfold oM;rw[e2];(rw[e3])
     refine wh ?_;refine⟨[],[some 0,some 1,some 2,some 3,some 9],_,_,_,⟨tq,.cons tq (.cons tq (.cons tq (.cons tq (.cons tq .nil)))),by rfl⟩,⟨(all.set ((n:Int) - 1).toNat s'),said,ms,A,(num+1),O,om,om,om,rfl,rfl,eN⟩⟩
   ·have hz:¬(0:Int).toNat=n - 1:=hz;have ej:(1:Int) - 1=0:=rfl;have eC:=lW cW (j:=1) om om;have cQ:=lX cW (j:=1) om om s';have e2:sv (all.set ((1:Int) - 1).toNat s') n=sv all n:=by rw[gg om om,if_neg om]
    rw[ej]at O eC cQ e2;refine⟨mC (sv all 1),eC,?_⟩;refine wh ?_;refine⟨[8],[some 7],_,_,_,_,V,t3,?_⟩;rintro r o' c' (⟨rfl,rfl,rfl,rfl⟩|⟨rfl,rfl,rfl⟩)
    ·have eN:[(0,TO.bx 1 ((jV n (all.set (0:Int).toNat s'))) [(n - 1,[.ptr 1 0])]),(1,mB ((sv all n))),(2,eP (said)),(3,eK (A)),(4,eP ([]))]=oM n ((all.set (0:Int).toNat s')) (said) (A) ([]):=by
      unfold oM;rw[e2];skip
     refine wh ?_;refine⟨[],[some 0,some 1,some 2,some 3,none],_,_,_,⟨tq,.cons (.rI hz (Lw.of cQ) tq tq) (.cons tq (.cons tq (.cons tq (.cons tq .nil)))),by rfl⟩,⟨(all.set (0:Int).toNat s'),said,[],A,(num+1),O,om,om,om,rfl,rfl,eN⟩⟩
    ·have eN:[(0,TO.bx 1 ((jV n (all.set (0:Int).toNat s'))) [(n - 1,[.ptr 1 0])]),(1,mB ((sv all n))),(2,eP (said)),(3,eK (A)),(4,eP (ms))]=oM n ((all.set (0:Int).toNat s')) (said) (A) (ms):=by
      unfold oM;rw[e2];skip
     refine wh ?_;refine⟨[],[some 0,some 1,some 2,some 3,some 10],_,_,_,⟨tq,.cons (.rI hz (Lw.of cQ) tq tq) (.cons tq (.cons tq (.cons tq (.cons tq .nil)))),by rfl⟩,⟨(all.set (0:Int).toNat s'),said,ms,A,(num+1),O,om,om,om,rfl,rfl,eN⟩⟩
  have k3:¬pk=3:=k3;have J2:0≤num:=I.ci.num;have Dp:IntKind.u64.wrap (num+1)=num+1:=IntWalk.u64_in _ om;have q1:=Int.emod_nonneg pi (show(n:Int)≠0 by omega);have q2:=Int.emod_lt_of_pos pi (show(0:Int)<(n:Int) by omega);obtain⟨q,hq⟩:∃q:Nat,pi % (n:Int)=q:=⟨(pi % (n:Int)).toNat,om⟩;have hqn:q<n:=by omega
  have Dv:IntKind.i64.wrap (1+(q:Int))=(q:Int)+1:=by rw[IntWalk.i64_in _ om];omega
  have xT:IntKind.i64.wrap ((q:Int)+1 - 1)=(q:Int):=by rw[IntWalk.i64_in _ om];omega
  refine wh ?_;rw[Dp];rw[MF om om];dsimp only
  rw[hq];have hT0:=lV (sv all n) (I.P9 om om (Int.le_refl _));have hd4:pi.tdiv 4=pi / 4:=Int.tdiv_eq_ediv_of_nonneg om;have X4:(pi / 4).tmod 3=pi / 4 % 3:=Int.tmod_eq_emod_of_nonneg om;have VB:pi.tmod 2=pi % 2:=Int.tmod_eq_emod_of_nonneg om;have zp:IntKind.u32.wrap (pi / 4 % 3)=pi / 4 % 3:=IntWalk.u32_in _ om;have hf:IntKind.i64.wrap (202+pi % 2)=202+pi % 2:=IntWalk.i64_in _ om;have M4:IntKind.i64.wrap (pi.tdiv 4)=pi / 4:=by rw[hd4,IntWalk.i64_in _ om]
  obtain⟨s',ms,V,O⟩:=I.Vo (show num≤900 by omega) (j:=(q:Int)+1) om om (f:=202+pi % 2) (key:=pi / 4 % 3) om om (T2:=((i+1:Nat):Int)) om;refine wh ?_;refine⟨[],[some 1],_,_,_,_,hT0,t3,cw ?_⟩;rw[Dv,M4,X4,zp];refine⟨by rw[List.length_map];simp;omega,?_⟩;refine wh ?_;rw[xT];refine⟨⟨om,by rw[vu];omega⟩,?_⟩;refine wh ?_;refine⟨fun hz=>?_,fun hz=>?_⟩
  ·have hz:(q:Int).toNat=n - 1:=hz;have ej:(q:Int)+1=n:=by omega
   have O:qC n ((i+1:Nat):Int) (all.set ((n:Int) - 1).toNat s') said (A++[⟨num+1,pi / 4 % 3,aR (sv all n) 0,aR (sv all n) 1,aR (sv all n) 2⟩]) (num+1) ms:=by
    rw[show(n:Int) - 1=(q:Int)+1 - 1 by omega];exact O
   rw[show sv all ((q:Int)+1)=sv all n by rw[ej]]at V;have e2:sv (all.set ((n:Int) - 1).toNat s') n=s':=by rw[gg om om,if_pos rfl]
   have e3:=jW cW s';refine wh ?_;rw[VB,hf,M4,X4,zp];refine⟨[],[some 1],_,_,_,_,V,t3,?_⟩;rintro r o' c' (⟨rfl,rfl,rfl,rfl⟩|⟨rfl,rfl,rfl⟩)
   ·have eN:[(0,TO.bx 1 ((jV n all)) [(n - 1,[.ptr 1 0])]),(1,mB (s')),(2,eP (said)),(3,eK ((A++[⟨num+1,pi / 4 % 3,aR (sv all n) 0,aR (sv all n) 1,aR (sv all n) 2⟩]))),(4,eP ([]))]=oM n ((all.set ((n:Int) - 1).toNat s')) (said) ((A++[⟨num+1,pi / 4 % 3,aR (sv all n) 0,aR (sv all n) 1,aR (sv all n) 2⟩])) ([]):=by
     unfold oM;rw[e2];(rw[e3])
    refine wh ?_;refine⟨[],[some 0,some 1,some 2,some 7,none],_,_,_,⟨tq,.cons tq (.cons tq (.cons tq (.cons (.arr (Lz.of (Ga A ⟨num+1,pi / 4 % 3,aR (sv all n) 0,aR (sv all n) 1,aR (sv all n) 2⟩))) (.cons tq .nil)))),by rfl⟩,⟨(all.set ((n:Int) - 1).toNat s'),said,[],(A++[⟨num+1,pi / 4 % 3,aR (sv all n) 0,aR (sv all n) 1,aR (sv all n) 2⟩]),(num+1),O,om,(Gb Vp),om,rfl,rfl,eN⟩⟩
   ·have eN:[(0,TO.bx 1 ((jV n all)) [(n - 1,[.ptr 1 0])]),(1,mB (s')),(2,eP (said)),(3,eK ((A++[⟨num+1,pi / 4 % 3,aR (sv all n) 0,aR (sv all n) 1,aR (sv all n) 2⟩]))),(4,eP (ms))]=oM n ((all.set ((n:Int) - 1).toNat s')) (said) ((A++[⟨num+1,pi / 4 % 3,aR (sv all n) 0,aR (sv all n) 1,aR (sv all n) 2⟩])) (ms):=by
     unfold oM;rw[e2];(rw[e3])
    refine wh ?_;refine⟨[],[some 0,some 1,some 2,some 7,some 9],_,_,_,⟨tq,.cons tq (.cons tq (.cons tq (.cons (.arr (Lz.of (Ga A ⟨num+1,pi / 4 % 3,aR (sv all n) 0,aR (sv all n) 1,aR (sv all n) 2⟩))) (.cons tq .nil)))),by rfl⟩,⟨(all.set ((n:Int) - 1).toNat s'),said,ms,(A++[⟨num+1,pi / 4 % 3,aR (sv all n) 0,aR (sv all n) 1,aR (sv all n) 2⟩]),(num+1),O,om,(Gb Vp),om,rfl,rfl,eN⟩⟩
  ·have hz:¬(q:Int).toNat=n - 1:=hz;have ej:(q:Int)+1 - 1=q:=by omega
   have eC:=lW cW (j:=(q:Int)+1) om om;have cQ:=lX cW (j:=(q:Int)+1) om om s';have e2:sv (all.set ((q:Int)+1 - 1).toNat s') n=sv all n:=by rw[gg om om,if_neg om]
   rw[ej]at O eC cQ e2;refine⟨mC (sv all ((q:Int)+1)),eC,?_⟩;refine wh ?_;rw[VB,hf,M4,X4,zp];refine⟨[],[some 8],_,_,_,_,V,t3,?_⟩;rintro r o' c' (⟨rfl,rfl,rfl,rfl⟩|⟨rfl,rfl,rfl⟩)
   ·have eN:[(0,TO.bx 1 ((jV n (all.set (q:Int).toNat s'))) [(n - 1,[.ptr 1 0])]),(1,mB ((sv all n))),(2,eP (said)),(3,eK ((A++[⟨num+1,pi / 4 % 3,aR (sv all n) 0,aR (sv all n) 1,aR (sv all n) 2⟩]))),(4,eP ([]))]=oM n ((all.set (q:Int).toNat s')) (said) ((A++[⟨num+1,pi / 4 % 3,aR (sv all n) 0,aR (sv all n) 1,aR (sv all n) 2⟩])) ([]):=by
     unfold oM;rw[e2];skip
    refine wh ?_;refine⟨[],[some 0,some 1,some 2,some 7,none],_,_,_,⟨tq,.cons (.rI hz (Lw.of cQ) tq tq) (.cons tq (.cons tq (.cons (.arr (Lz.of (Ga A ⟨num+1,pi / 4 % 3,aR (sv all n) 0,aR (sv all n) 1,aR (sv all n) 2⟩))) (.cons tq .nil)))),by rfl⟩,⟨(all.set (q:Int).toNat s'),said,[],(A++[⟨num+1,pi / 4 % 3,aR (sv all n) 0,aR (sv all n) 1,aR (sv all n) 2⟩]),(num+1),O,om,(Gb Vp),om,rfl,rfl,eN⟩⟩
   ·have eN:[(0,TO.bx 1 ((jV n (all.set (q:Int).toNat s'))) [(n - 1,[.ptr 1 0])]),(1,mB ((sv all n))),(2,eP (said)),(3,eK ((A++[⟨num+1,pi / 4 % 3,aR (sv all n) 0,aR (sv all n) 1,aR (sv all n) 2⟩]))),(4,eP (ms))]=oM n ((all.set (q:Int).toNat s')) (said) ((A++[⟨num+1,pi / 4 % 3,aR (sv all n) 0,aR (sv all n) 1,aR (sv all n) 2⟩])) (ms):=by
     unfold oM;rw[e2];skip
    refine wh ?_;refine⟨[],[some 0,some 1,some 2,some 7,some 10],_,_,_,⟨tq,.cons (.rI hz (Lw.of cQ) tq tq) (.cons tq (.cons tq (.cons (.arr (Lz.of (Ga A ⟨num+1,pi / 4 % 3,aR (sv all n) 0,aR (sv all n) 1,aR (sv all n) 2⟩))) (.cons tq .nil)))),by rfl⟩,⟨(all.set (q:Int).toNat s'),said,ms,(A++[⟨num+1,pi / 4 % 3,aR (sv all n) 0,aR (sv all n) 1,aR (sv all n) 2⟩]),(num+1),O,om,(Gb Vp),om,rfl,rfl,eN⟩⟩
end Go.M
