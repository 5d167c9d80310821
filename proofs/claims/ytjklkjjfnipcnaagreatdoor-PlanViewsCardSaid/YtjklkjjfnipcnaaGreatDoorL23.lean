/-
  Part 23 of the library that the proof leans on.
-/
import Derived.Test.YtjklkjjfnipcnaaGreatDoorL12
import Derived.Test.YtjklkjjfnipcnaaGreatDoorL19
import Derived.Test.YtjklkjjfnipcnaaGreatDoorL21
import Derived.Test.YtjklkjjfnipcnaaGreatDoorL22
noncomputable section
namespace Go.M
open Go Go.Proofs
set_option maxRecDepth 100000
def nj (mx:Int):kX:=[(0,[.int .i64 mx])]
def wO:FuncId→List Value→ab→Option (Value×ab):=fun g args h=>match Nat.beq g 31 with
 |true=>(match nW args h with
  |some r=>some r
  |none=>nh args h)
 |false=>none
noncomputable def E0 (mx:Int):=iV Tryz.prog (nj mx) (wN 25 (Bk (nj mx) [7] wO))
noncomputable def T0 (mx:Int):=tE (E0 mx) []
theorem L0 (mx:Int):bV (T0 mx) (E0 mx):=LR (fun t z h=>by
 simp only[E0,iV,iz,Option.bind_eq_some_iff,ae,Option.some.injEq]at h;obtain⟨i,h1,z',h2,h3,rfl⟩:=h;exact h3) rfl
theorem sY {E:Env} (hm:Tryz.prog.follows .mixedOrders=true) (base B:Nat) {mn:FuncId→List Value→ab→Option (Value×ab)} (ho:E.mn=fun _=>mn) (h1:mn=wO):eZ Tryz.prog E base B:=by
 subst h1;intro μ h w g args args' v h' hc hr H F n hF;rw[ho]at hc;have jW:wO g args h=some (v,h'):=hc;unfold wO at jW;split at jW
 ·rename_i hg;obtain rfl:=beq_iff.1 hg;split at jW
  ·rename_i r gG;cases jW;exact Dc hm (fun g hg=>by cases hg) gG hr H hF n
  ·exact By hm (fun g hg=>by cases hg) jW hr H hF n
 ·cases jW
@[reducible] def nk (ns:List Int):List (List TV):=ns.map fun n=>[.s (.int .u8 n)]
theorem vI {mx:Int} (ns:List Int) (fl:Bool) (hl:ns.length≤140737488355328):VC (E0 mx) 25 0 [.sl 1 (nk ns) fl] [] (RR (.sl 1 (nk ns) false) 1 []):=
 VC.NU (E:=E0 mx) (by kernel_rfl) (fun b a h r hr=>by
  show wN 25 _ 25 a h=_;unfold wN;rw[hr]) ns fl hl
theorem KZ {mx:Int} {y:TO} {ks:List Int} (hy:Ec ks y) (BZ:ks.length<4096):VC (E0 mx) 31 2 [.de 54 [] [.ptr 1 0]] [(0,y),(1,.cells [.mp 0])] (RR (.sl 1 ((dE ks).map fH) false) 3 [(0,y),(1,.cells [.mp 0])]):=
 VC.IM (E:=E0 mx) (by kernel_rfl) (fun b a h r hr=>by
  show wO 31 a h=_;unfold wO;rw[hr]) hy BZ
set_option maxHeartbeats 4000000
variable {mx:Int}
structure Vl where
 (key nY:Int)
 data:List Int
@[reducible] def cG (x:Vl):List TV:=[.s (.int .u32 x.key),.s (.int .u64 x.nY),.sl 1 (nk x.data) false]
@[reducible] def BC (x:Int×List Int):TV:=.agg [.s (.int .u64 x.1),.sl 1 (nk x.2) false]
abbrev Es:=List (Int×Int×List Int)
@[reducible] def zQ (es:Es):Ob:=[(0,.cells [.mp 1]),(1,.map (fE .u32) (es.map (qw .u32 BC)))]
theorem NV:VC (E0 mx) 9 0 [] [] (RR (.ptr 0 0) 2 (zQ [])):=by
 refine VC.bo (L0 mx) (show(E0 mx).func 9=some Tryz.f9 by kernel_rfl) (fun _ _=>rfl) rfl rfl [] ?_;refine wh ?_;exact⟨[],[some 1,some 0],_,_,_,t3,rfl,rfl,rfl⟩
theorem Ee (es:Es) (key nY:Int) (d:List Int) (fl:Bool) (hl:d.length≤140737488355328):VC (E0 mx) 11 2 [.ptr 0 0,.s (.int .u32 key),.s (.int .u64 nY),.sl 1 (nk d) fl] (zQ es) (RR (.dH []) 2 (zQ (ni es key (nY,d)))):=by
 refine VC.bo (L0 mx) (show(E0 mx).func 11=some Tryz.f11 by kernel_rfl) (fun _ _=>rfl) rfl rfl [] ?_;refine wh ?_;refine⟨[],[],_,_,_,_,vI d fl hl,t3,cw ?_⟩;refine⟨[],[some 0,some 1],?_⟩
 iterate 3 constructor
 refine⟨⟨?_,?_,?_⟩,rfl,rfl,rfl⟩
 all_goals(repeat' first|exact LF|constructor)
 all_goals exact Lz.of (IX (f:=BC) .u32 key (nY,d) es)
@[reducible] def IZ:TV:=.s (.pointer none)
theorem BD (key nY:Int) (d:List Int) (fl:Bool):VC (E0 mx) 11 0 [IZ,.s (.int .u32 key),.s (.int .u64 nY),.sl 1 (nk d) fl] [] (RR (.dH []) 0 []):=by
 refine VC.bo (L0 mx) (show(E0 mx).func 11=some Tryz.f11 by kernel_rfl) (fun _ _=>rfl) rfl rfl [] ?_;refine wh ?_;exact⟨[],[],_,_,_,t3,rfl,rfl,rfl⟩
@[reducible] def I1 (x:Int×List Int) (ok:Bool):TV:=.dH [.s (.int .u64 x.1),.sl 1 (nk x.2) false,.s (.bool ok)]
theorem I2 (es:Es) (key:Int) (h:e8 es key=none):VC (E0 mx) 20 2 [.ptr 0 0,.s (.int .u32 key)] (zQ es) (RR (I1 (0,[]) false) 2 (zQ es)):=by
 refine VC.bo (L0 mx) (show(E0 mx).func 20=some Tryz.f20 by kernel_rfl) (fun _ _=>rfl) rfl rfl [] ?_;refine wh ?_;refine⟨none,by rw[zq,h];rfl,?_⟩;refine wh ?_;refine⟨[],[],_,_,_,_,vI [] true (by decide),t3,cw ?_⟩;exact⟨[],[some 0,some 1],_,_,_,t3,rfl,rfl,rfl⟩
theorem BE (es:Es) (key:Int) (x:Int×List Int) (h:e8 es key=some x) (hl:x.2.length≤140737488355328):VC (E0 mx) 20 2 [.ptr 0 0,.s (.int .u32 key)] (zQ es) (RR (I1 x true) 2 (zQ es)):=by
 obtain⟨nY,d⟩:=x;refine VC.bo (L0 mx) (show(E0 mx).func 20=some Tryz.f20 by kernel_rfl) (fun _ _=>rfl) rfl rfl [] ?_;refine wh ?_;refine⟨some (BC (nY,d)),by rw[zq,h];rfl,?_⟩;refine wh ?_;refine⟨[],[],_,_,_,_,vI d false hl,t3,cw ?_⟩;exact⟨[],[some 0,some 1],_,_,_,t3,rfl,rfl,rfl⟩
@[reducible] def BF (es:Es) (key:Int):Int×List Int:=(e8 es key).getD (0,[])
@[reducible] def vJ (es:Es):Prop:=∀k x,e8 es k=some x→x.2.length≤140737488355328
theorem I3 (es:Es) (key:Int) (he:vJ es):VC (E0 mx) 20 2 [.ptr 0 0,.s (.int .u32 key)] (zQ es) (RR (I1 (BF es key) (e8 es key).isSome) 2 (zQ es)):=by
 unfold BF;cases h:e8 es key with
 |none=>exact I2 es key h
 |some x=>exact BE es key x h (he _ _ h)
theorem xV (key:Int):VC (E0 mx) 20 0 [IZ,.s (.int .u32 key)] [] (RR (.dH [.s (.int .u64 0),.sl 0 [] true,.s (.bool false)]) 0 []):=by
 refine VC.bo (L0 mx) (show(E0 mx).func 20=some Tryz.f20 by kernel_rfl) (fun _ _=>rfl) rfl rfl [] ?_;refine wh ?_;exact⟨[],[],_,_,_,t3,rfl,rfl,rfl⟩
theorem I4 (es:Es):VC (E0 mx) 32 1 [.mp 0] [(0,.map (fE .u32) (es.map (qw .u32 BC)))] (RR (.de 54 [] [.ptr 1 0]) 2 [(0,.map (fE .u32) (es.map (qw .u32 BC))),(1,.cells [.mp 0])]):=by
 refine VC.bo (L0 mx) (show(E0 mx).func 32=some Tryz.f32 by kernel_rfl) (fun _ _=>rfl) rfl rfl [] ?_;refine wh ?_;exact⟨[],[some 0,some 1],_,_,_,t3,rfl,rfl,rfl⟩
theorem I5 (es:Es) (hl:es.length<4096):VC (E0 mx) 16 2 [.ptr 0 0] (zQ es) (RR (.sl 1 ((dE (fQ es)).map fH) false) 2 (zQ es)):=by
 have hk:Ec (fQ es) (.map (fE .u32) (es.map (qw .u32 BC))):=KY .u32 BC es;refine VC.bo (L0 mx) (show(E0 mx).func 16=some Tryz.f16 by kernel_rfl) (fun _ _=>rfl) rfl rfl [] ?_;refine wh ?_;refine⟨[],[some 1],_,_,_,_,I4 es,t3,cw ?_⟩;refine⟨[],[some 1,some 3],_,_,_,_,KZ hk (by rw[List.length_map];exact hl),t3,cw ?_⟩;exact⟨[],[some 0,some 1],_,_,_,t3,rfl,rfl,rfl⟩
theorem FY:VC (E0 mx) 16 0 [IZ] [] (RR (.sl 0 [] true) 0 []):=by
 refine VC.bo (L0 mx) (show(E0 mx).func 16=some Tryz.f16 by kernel_rfl) (fun _ _=>rfl) rfl rfl [] ?_;refine wh ?_;exact⟨[],[],_,_,_,t3,rfl,rfl,rfl⟩
def wR:Es→List Vl→Es
 |es,[]=>es
 |es,p::l=>wR (if(BF es p.key).1=p.nY then ni es p.key (IntKind.u64.wrap (p.nY+1),p.data)else es) l
theorem I6 (es:Es) (l:List Vl) (i:Nat) (h:i<l.length):wR es (l.take (i+1))=(if(BF (wR es (l.take i)) l[i].key).1=l[i].nY then ni (wR es (l.take i)) l[i].key (IntKind.u64.wrap (l[i].nY+1),l[i].data)else wR es (l.take i)):=by
 have key:∀(a b:List Vl) (es:Es),wR es (a++b)=wR (wR es a) b:=by
  intro a
  induction a with
  |nil=>intro b es;rfl
  |cons x a ih=>intro b es;exact ih b _
 rw[List.take_succ_eq_append_getElem h,key];rfl
@[reducible] def K3 (l:List Vl):Prop:=∀p∈l,p.data.length≤140737488355328
theorem vJ.put {es:Es} (H:vJ es) {k v:Int} {d:List Int} (hd:d.length≤140737488355328):vJ (ni es k (v,d)):=by
 intro m x hx;rw[rQ]at hx;split at hx
 ·cases hx;exact hd
 ·exact H m x hx
theorem vJ.do {es:Es} (H:vJ es):∀{l:List Vl},K3 l→vJ (wR es l):=by
 intro l
 induction l generalizing es with
 |nil=>intro _;exact H
 |cons p l ih=>
  intro hl;unfold wR;refine ih ?_ fun q hq=>hl q (List.mem_cons_of_mem _ hq);split
  ·exact H.put (hl p List.mem_cons_self)
  ·exact H
theorem Q5 (es:Es) (l:List Vl) (hn:l.length<1000) (hb:K3 l) (he:vJ es):VC (E0 mx) 18 2 [.ptr 0 0,.sl 3 (l.map cG) false] (zQ es) (RR (.dH []) 2 (zQ (wR es l))):=by
 refine VC.bo (L0 mx) (show(E0 mx).func 18=some Tryz.f18 by kernel_rfl) (fun _ _=>rfl) rfl rfl [] ?_;refine wh ?_;refine⟨fun k f o c=>∃i:Nat,i≤l.length∧k=l.length - i∧c=2∧f=[(0,.ptr 0 0),(9,.sl 3 (l.map cG) false),(10,.s (.int .i64 l.length)),(11,.s (.int .i64 i))]∧o=zQ (wR es (l.take i)),⟨l.length,?_⟩,?_⟩
 ·refine⟨[],[some 0,some 1],?_⟩
  iterate 3 constructor
  refine⟨⟨?_,?_,?_⟩,⟨0,Nat.zero_le _,rfl,rfl,rfl,rfl⟩⟩
  all_goals(repeat' first|exact LF|constructor)
  all_goals exact Lz.of (by simp[goInt])
 rintro k f1 o1 c1 ⟨i,hi,rfl,rfl,rfl,rfl⟩;have Pq:vJ (wR es (l.take i)):=he.do fun q hq=>hb q (List.mem_of_mem_take hq);refine wh ?_;refine sp ?_ ?_<;>intro h
 ·have h:i<l.length:=Int.ofNat_lt.1 h;have hd:=hb l[i] (List.getElem_mem h);have hw:IntKind.i64.wrap ((i:Int)+1)=((i+1:Nat):Int):=IntWalk.i64_in _ om;have hs:=I6 es l i h;generalize Gx:wR es (l.take (i+1))=s' at hs;generalize wR es (l.take i)=s at hs Pq;refine wh ?_;refine iF h ?_;refine wh ?_;refine⟨[],[some 0,some 1],_,_,_,_,I3 s l[i].key Pq,t3,cw ?_⟩;refine sp ?_ ?_<;>intro hv
  ·have hv:(BF s l[i].key).1=l[i].nY:=hv;rw[if_pos hv]at hs;subst hs;refine wh ?_;rw[hv];refine⟨[],[some 0,some 1],_,_,_,_,Ee s l[i].key (IntKind.u64.wrap (l[i].nY+1)) l[i].data false hd,t3,cw ?_⟩;rw[hw];refine⟨l.length - (i+1),?_,om⟩;exact⟨[],[some 0,some 1],_,_,_,t3,⟨i+1,h,rfl,rfl,rfl,congrArg zQ Gx.symm⟩⟩
  ·have hv:¬(BF s l[i].key).1=l[i].nY:=hv;rw[if_neg hv]at hs;subst hs;refine wh ?_;rw[hw];refine⟨l.length - (i+1),?_,om⟩;exact⟨[],[some 0,some 1],_,_,_,t3,⟨i+1,h,rfl,rfl,rfl,congrArg zQ Gx.symm⟩⟩
 ·have h:¬(i:Int)<(l.length:Int):=h;have e:i=l.length:=by omega
  subst e;refine wh ?_;rw[List.take_length];exact⟨[],[some 0,some 1],_,_,_,t3,rfl,rfl,rfl⟩
theorem NW (l:List Vl) (hn:l.length<1000):VC (E0 mx) 18 0 [IZ,.sl 3 (l.map cG) false] [] (RR (.dH []) 0 []):=by
 refine VC.bo (L0 mx) (show(E0 mx).func 18=some Tryz.f18 by kernel_rfl) (fun _ _=>rfl) rfl rfl [] ?_;refine wh ?_;refine⟨fun k f o c=>∃i:Nat,i≤l.length∧k=l.length - i∧c=0∧f=[(0,IZ),(9,.sl 3 (l.map cG) false),(10,.s (.int .i64 l.length)),(11,.s (.int .i64 i))]∧o=[],⟨l.length,?_⟩,?_⟩
 ·refine⟨[],[],?_⟩
  iterate 3 constructor
  refine⟨⟨?_,?_,?_⟩,⟨0,Nat.zero_le _,rfl,rfl,rfl,rfl⟩⟩
  all_goals(repeat' first|exact LF|constructor)
  all_goals exact Lz.of (by simp[goInt])
 rintro k f1 o1 c1 ⟨i,hi,rfl,rfl,rfl,rfl⟩;refine wh ?_;refine sp ?_ ?_<;>intro h
 ·have h:i<l.length:=Int.ofNat_lt.1 h;have hw:IntKind.i64.wrap ((i:Int)+1)=((i+1:Nat):Int):=IntWalk.i64_in _ om;refine wh ?_;refine iF h ?_;refine wh ?_;refine⟨[],[],_,_,_,_,xV l[i].key,t3,cw ?_⟩;refine sp ?_ ?_<;>intro hv
  ·refine wh ?_;refine⟨[],[],_,_,_,_,BD l[i].key (IntKind.u64.wrap (0+1)) l[i].data false,t3,cw ?_⟩;rw[hw];refine⟨l.length - (i+1),?_,om⟩;exact⟨[],[],_,_,_,t3,⟨i+1,h,rfl,rfl,rfl,rfl⟩⟩
  ·refine wh ?_;rw[hw];refine⟨l.length - (i+1),?_,om⟩;exact⟨[],[],_,_,_,t3,⟨i+1,h,rfl,rfl,rfl,rfl⟩⟩
 ·refine wh ?_;exact⟨[],[],_,_,_,t3,rfl,rfl,rfl⟩
end Go.M
namespace Go.M
open Go Go.Proofs
set_option maxRecDepth 100000
set_option maxHeartbeats 4000000
variable {mx:Int}
theorem qx {α:Type} (l:List α) (i:Nat) (h:i<l.length):l.take (i+1)=l.take i++[l[i]]:=List.take_succ_eq_append_getElem h
def np:List Vl→Vl→List Vl
 |[],v=>[v]
 |x::l,v=>if x.key<v.key then x::np l v else if x.key=v.key then v::l else v::x::l
def xW (v:Vl):List Vl→List Vl
 |[]=>[]
 |x::r=>if x.key=v.key then r else x::r
theorem I7 (v:Vl):∀(l:List Vl) (i:Nat),i≤l.length→(∀x∈l.take i,x.key<v.key)→(∀x,l[i]? =some x→¬x.key<v.key)→np l v=l.take i++v::xW v (l.drop i)
 |[],i,hi,_,_=>by simp at hi;subst hi;simp[np,xW]
 |y::l,0,_,_,hx=>by
  have:=hx y rfl;unfold np xW;simp only[List.take_zero,List.nil_append,List.drop_zero];split
  ·exact absurd ‹_› this
  ·split<;>rfl
 |y::l,i+1,hi,bO,hx=>by
  have h1:=bO y (by simp);have:=I7 v l i (by simpa using hi) (fun x ir=>bO x (by simp[ir])) (fun x ir=>hx x (by simpa using ir));unfold np;rw[if_pos h1,this];simp
theorem I8 (l:List Vl) (v:Vl) (hl:l.length<1000):VC (E0 mx) 17 0 [.sl 3 (l.map cG) false,.agg (cG v)] [] (RR (.sl 3 ((np l v).map cG) false) 0 []):=by
 refine VC.bo (L0 mx) (show(E0 mx).func 17=some Tryz.f17 by kernel_rfl) (fun _ _=>rfl) rfl rfl [0] ?_;refine wh ?_;refine⟨fun f o c=>∃i:Nat,i≤l.length∧(∀x∈l.take i,x.key<v.key)∧(∀x,l[i]? =some x→¬x.key<v.key)∧c=2∧f=[(0,.sl 3 (l.map cG) false),(3,.ptr 0 0),(5,.tk 1),(6,.s (.int .i64 i))]∧o=[(0,.cells (cG v)),(1,.arr 3 true ((l.take i).map cG))],?_,?_⟩
 ·refine wh ?_;refine⟨fun k f o c=>∃i:Nat,i≤l.length∧(∀x∈l.take i,x.key<v.key)∧k=l.length - i∧c=2∧f=[(0,.sl 3 (l.map cG) false),(3,.ptr 0 0),(5,.tk 1),(6,.s (.int .i64 i))]∧o=[(0,.cells (cG v)),(1,.arr 3 true ((l.take i).map cG))],⟨l.length,?_⟩,?_⟩
  ·exact⟨[],[some 0,none],_,_,_,t3,⟨0,Nat.zero_le _,by simp,rfl,rfl,rfl,rfl⟩⟩
  ·rintro k f1 o1 c1 ⟨i,hi,bO,rfl,rfl,rfl,rfl⟩;refine wh ?_;refine sp ?_ ?_<;>intro h
   ·have h:=kf.1 h;have hd:=qx l i h;refine wh ?_;refine iF h ?_;refine wh ?_;refine sp ?_ ?_<;>intro hs
    ·refine wh ?_;refine iF h ?_;refine wh ?_;refine⟨by simp;omega,?_⟩;refine wh ?_;refine⟨l.length - (i+1),?_,om⟩;refine⟨[],[some 0,some 3],?_⟩
     iterate 3 constructor
     refine⟨⟨?_,?_,?_⟩,⟨i+1,h,by intro x hx;rw[hd]at hx;rcases List.mem_append.1 hx with h1|h1;exact bO x h1;simp at h1;subst h1;exact hs,rfl,rfl,rfl,rfl⟩⟩
     all_goals(repeat' first|exact LF|constructor)
     all_goals exact Lz.of (by rw[hd,List.map_append];rfl)
    ·refine wh ?_;exact⟨[],[some 0,some 1],_,_,_,t3,⟨i,hi,bO,fun x hx=>by rw[List.getElem?_eq_getElem h]at hx;cases hx;exact hs,rfl,rfl,rfl⟩⟩
   ·have h:=mt kf.2 h;refine wh ?_;exact⟨[],[some 0,some 1],_,_,_,t3,⟨i,hi,bO,fun x hx=>(by rw[List.getElem?_eq_none om]at hx;cases hx),rfl,rfl,rfl⟩⟩
 ·rintro f1 o1 c1 ⟨i,hi,bO,hx,rfl,rfl,rfl⟩;have hp:=I7 v l i hi bO hx;refine wh ?_;refine⟨by simp;omega,?_⟩;refine wh ?_;refine sp ?_ ?_<;>intro h
  ·have h:=kf.1 h;have R0:l.drop i=l[i]::l.drop (i+1):=List.drop_eq_getElem_cons h;refine wh ?_;refine iF h ?_;refine wh ?_;refine sp ?_ ?_<;>intro hs
   ·refine wh ?_;rw[wrap_small i om];refine⟨⟨om,by simp;omega,by simp⟩,?_⟩;refine wh ?_;refine⟨by simp;omega,?_⟩;refine wh ?_;refine⟨[4],[],?_⟩
    iterate 3 constructor
    refine⟨⟨?_,?_,?_⟩,rfl,rfl,rfl⟩
    all_goals(repeat' first|exact LF|constructor)
    refine Lz.of ?_;rw[hp,R0];simp[xW,hs];rw[List.take_of_length_le (by simp)]
   ·refine wh ?_;refine⟨⟨om,by simp;omega,by simp⟩,?_⟩;refine wh ?_;refine⟨by simp;omega,?_⟩;refine wh ?_;refine⟨[4],[],?_⟩
    iterate 3 constructor
    refine⟨⟨?_,?_,?_⟩,rfl,rfl,rfl⟩
    all_goals(repeat' first|exact LF|constructor)
    refine Lz.of ?_;rw[hp,R0];simp[xW,hs];rw[List.take_of_length_le (by simp)]
  ·have h:=mt kf.2 h;refine wh ?_;refine⟨⟨om,by simp;omega,by simp⟩,?_⟩;refine wh ?_;refine⟨by simp;omega,?_⟩;refine wh ?_;refine⟨[4],[],?_⟩
   iterate 3 constructor
   refine⟨⟨?_,?_,?_⟩,rfl,rfl,rfl⟩
   all_goals(repeat' first|exact LF|constructor)
   have Gy:l.drop i=[]:=List.drop_eq_nil_of_le om;refine Lz.of ?_;rw[hp,Gy];simp[xW];omega
def B3:List Vl→Int→Vl×Bool
 |[],k=>(⟨k,0,[]⟩,false)
 |x::l,k=>if x.key=k then(x,true)else B3 l k
theorem BG (l:List Vl) (k:Int) (i:Nat) (h:∀x∈l.take i,x.key≠k):B3 l k=B3 (l.drop i) k:=by
 induction l generalizing i with
 |nil=>simp
 |cons a l ih=>
  cases i with
  |zero=>rfl
  |succ i=>
   have h1:=h a (by simp);rw[B3,if_neg h1,List.drop_succ_cons];exact ih i fun x hx=>h x (by simp[hx])
theorem Q6 (l:List Vl) (k:Int) (hl:l.length<1000):VC (E0 mx) 10 0 [.sl 3 (l.map cG) false,.s (.int .u32 k)] [] (RR (.dH [.agg (cG (B3 l k).1),.s (.bool (B3 l k).2)]) 0 []):=by
 refine VC.bo (L0 mx) (show(E0 mx).func 10=some Tryz.f10 by kernel_rfl) (fun _ _=>rfl) rfl rfl [] ?_;refine wh ?_;refine⟨fun kk f o c=>∃i:Nat,i≤l.length∧(∀x∈l.take i,x.key≠k)∧kk=l.length - i∧c=1∧f=[(0,.sl 3 (l.map cG) false),(1,.s (.int .u32 k)),(4,.ptr 0 0),(6,.s (.int .i64 i))]∧o=[(0,.cells (cG ⟨0,0,[]⟩))],⟨l.length,?_⟩,?_⟩
 ·exact⟨[],[some 0],_,_,_,t3,⟨0,Nat.zero_le _,by simp,rfl,rfl,rfl,rfl⟩⟩
 rintro kk f1 o1 c1 ⟨i,hi,bO,rfl,rfl,rfl,rfl⟩;refine wh ?_;refine sp ?_ ?_<;>intro h
 ·have h:=kf.1 h;have R0:l.drop i=l[i]::l.drop (i+1):=List.drop_eq_getElem_cons h;have ha:=BG l k i bO;refine wh ?_;refine iF h ?_;refine wh ?_;refine sp ?_ ?_<;>intro hs
  ·have hs:l[i].key=k:=hs;rw[R0,B3,if_pos hs]at ha;refine wh ?_;refine iF h ?_;refine wh ?_;rw[ha];exact⟨[],[],_,_,_,t3,rfl,rfl,rfl⟩
  ·have hs:¬l[i].key=k:=hs;refine wh ?_;rw[wrap_small i om];refine⟨l.length - (i+1),?_,om⟩;exact⟨[],[some 0],_,_,_,t3,⟨i+1,h,by intro x hx;rw[qx l i h]at hx;rcases List.mem_append.1 hx with h1|h1;exact bO x h1;simp at h1;subst h1;exact hs,rfl,rfl,rfl,rfl⟩⟩
 ·have h:=mt kf.2 h;have ha:=BG l k i bO;rw[List.drop_eq_nil_of_le om]at ha;rw[ha];refine wh ?_;exact⟨[],[],_,_,_,t3,rfl,rfl,rfl⟩
end Go.M
namespace Go.M
open Go Go.Proofs
set_option maxRecDepth 100000
set_option maxHeartbeats 4000000
variable {mx:Int}
@[reducible] def oC (l:List Vl) (p:Vl):List Vl:=if(B3 l p.key).1.nY=p.nY then np l ⟨p.key,IntKind.u64.wrap (p.nY+1),p.data⟩else l
def JQ (l ps:List Vl):List Vl:=ps.foldl oC l
theorem I9 (l ps:List Vl) (i:Nat) (h:i<ps.length):JQ l (ps.take (i+1))=oC (JQ l (ps.take i)) ps[i]:=by
 unfold JQ;rw[qx ps i h,List.foldl_append];rfl
theorem vK (v:Vl):∀l:List Vl,(np l v).length≤l.length+1
 |[]=>by simp[np]
 |x::l=>by
  have:=vK v l;unfold np;split
  ·simp;omega
  ·split<;>simp
theorem zt (l:List Vl):∀ps:List Vl,(JQ l ps).length≤l.length+ps.length
 |[]=>Nat.le_refl _
 |p::ps=>by
  have h1:=zt (oC l p) ps;have h2:(oC l p).length≤l.length+1:=by
   unfold oC;split
   ·exact vK _ _
   ·omega
  show(JQ (oC l p) ps).length≤_;simp only[List.length_cons];omega
theorem NY (l ps:List Vl) (hl:l.length+ps.length<1000):VC (E0 mx) 19 0 [.sl 3 (l.map cG) false,.sl 3 (ps.map cG) false] [] (fun r o c=>∃b:Bool,r= .dH [.sl 3 ((JQ l ps).map cG) false,.s (.bool b)]∧c=0∧o=[]):=by
 refine VC.bo (L0 mx) (show(E0 mx).func 19=some Tryz.f19 by kernel_rfl) (fun _ _=>rfl) rfl rfl [] ?_;refine wh ?_;refine⟨fun k f o c=>∃(i:Nat) (b:Bool) (s:List Vl),s=JQ l (ps.take i)∧i≤ps.length∧k=ps.length - i∧c=0∧f=[(0,.sl 3 (s.map cG) false),(1,.sl 3 (ps.map cG) false),(6,.s (.bool b)),(7,.s (.int .i64 i))]∧o=[],⟨ps.length,?_⟩,?_⟩
 ·exact⟨[],[],_,_,_,t3,⟨0,true,l,rfl,Nat.zero_le _,rfl,rfl,rfl,rfl⟩⟩
 rintro k f1 o1 c1 ⟨i,b,s,J0,hi,rfl,rfl,rfl,rfl⟩;refine wh ?_;refine sp ?_ ?_<;>intro h
 ·have h:=kf.1 h;have hs:=I9 l ps i h;rw[←J0]at hs;have ud:s.length<1000:=by
   have:=zt l (ps.take i);rw[List.length_take]at this;rw[J0];omega
  refine wh ?_;refine iF h ?_;refine wh ?_;refine⟨[],[],_,_,_,_,Q6 s ps[i].key ud,t3,cw ?_⟩;refine iF h ?_;refine wh ?_;refine sp ?_ ?_<;>intro hv
  ·have hv:(B3 s ps[i].key).1.nY=ps[i].nY:=hv;unfold oC at hs;rw[if_pos hv]at hs;refine wh ?_;refine iF h ?_;refine wh ?_;refine iF h ?_;refine wh ?_;refine iF h ?_;refine wh ?_;refine⟨[],[],_,_,_,_,I8 s ⟨ps[i].key,IntKind.u64.wrap (ps[i].nY+1),ps[i].data⟩ ud,t3,cw ?_⟩;rw[wrap_small i om];refine⟨ps.length - (i+1),?_,om⟩;exact⟨[],[],_,_,_,t3,⟨i+1,b,_,hs.symm,h,rfl,rfl,rfl,rfl⟩⟩
  ·have hv:¬(B3 s ps[i].key).1.nY=ps[i].nY:=hv;unfold oC at hs;rw[if_neg hv]at hs;refine wh ?_;rw[wrap_small i om];refine⟨ps.length - (i+1),?_,om⟩;exact⟨[],[],_,_,_,t3,⟨i+1,false,_,hs.symm,h,rfl,rfl,rfl,rfl⟩⟩
 ·have h:=mt kf.2 h;have e:ps.take i=ps:=List.take_of_length_le om;rw[e]at J0;subst J0;refine wh ?_;exact⟨[],[],_,_,_,t3,b,rfl,rfl,rfl⟩
theorem K4 (l:List Int) (hl:l.length≤140737488355328):VC (E0 mx) 21 0 [.sl 1 (nk l) false,.sl 1 (nk l) false] [] (RR (.s (.bool true)) 0 []):=by
 refine VC.bo (L0 mx) (show(E0 mx).func 21=some Tryz.f21 by kernel_rfl) (fun _ _=>rfl) rfl rfl [] ?_;refine wh ?_;refine sp ?_ ?_<;>intro UG
 ·exact absurd rfl UG
 refine wh ?_;refine⟨fun k f o c=>∃i:Nat,i≤l.length∧k=l.length - i∧c=0∧f=[(0,.sl 1 (nk l) false),(1,.sl 1 (nk l) false),(5,.s (.int .i64 i))]∧o=[],⟨l.length,?_⟩,?_⟩
 ·exact⟨[],[],_,_,_,t3,⟨0,Nat.zero_le _,rfl,rfl,rfl,rfl⟩⟩
 ·rintro k f1 o1 c1 ⟨i,hi,rfl,rfl,rfl,rfl⟩;refine wh ?_;refine sp ?_ ?_<;>intro h
  ·have h:i<l.length:=kf.1 h;refine wh ?_;refine iF h ?_;refine wh ?_;refine iF h ?_;refine wh ?_;refine sp ?_ ?_<;>intro hv
   ·exact absurd rfl hv
   ·refine wh ?_;have EA:IntKind.i64.wrap ((i:Int)+1)=((i+1:Nat):Int):=IntWalk.i64_in _ om;rw[EA];refine⟨l.length - (i+1),?_,om⟩;exact⟨[],[],_,_,_,t3,⟨i+1,h,rfl,rfl,rfl,rfl⟩⟩
  ·refine wh ?_;exact⟨[],[],_,_,_,t3,rfl,rfl,rfl⟩
structure Rel (es:Es) (r:List Vl):Prop where
 nodup:(fQ es).Nodup
 up:r.Pairwise fun a b=>a.key<b.key
 same:∀x:Vl,(x.key,(x.nY,x.data))∈es↔x∈r
theorem vL {v x:Vl}:∀{l:List Vl},l.Pairwise (fun a b=>a.key<b.key)→(x∈np l v↔x=v∨x.key≠v.key∧x∈l)
 |[],_=>by simp[np]
 |a::l,h=>by
  obtain⟨h1,h2⟩:=List.pairwise_cons.1 h;have ih:=vL (v:=v) (x:=x) h2;unfold np;by_cases c1:a.key<v.key
  ·rw[if_pos c1,List.mem_cons,ih,List.mem_cons];constructor
   ·rintro(rfl |rfl |⟨q1,q2⟩)
    ·exact .inr ⟨om,.inl rfl⟩
    ·exact .inl rfl
    ·exact .inr ⟨q1,.inr q2⟩
   ·rintro(rfl |⟨q1,rfl |q2⟩)
    ·exact .inr (.inl rfl)
    ·exact .inl rfl
    ·exact .inr (.inr ⟨q1,q2⟩)
  ·rw[if_neg c1];by_cases c2:a.key=v.key
   ·rw[if_pos c2,List.mem_cons,List.mem_cons];constructor
    ·rintro(rfl |q)
     ·exact .inl rfl
     ·have:=h1 x q;exact .inr ⟨om,.inr q⟩
    ·rintro(rfl |⟨q1,rfl |q2⟩)
     ·exact .inl rfl
     ·exact absurd c2 q1
     ·exact .inr q2
   ·rw[if_neg c2,List.mem_cons,List.mem_cons];constructor
    ·rintro(rfl |rfl |q)
     ·exact .inl rfl
     ·exact .inr ⟨c2,.inl rfl⟩
     ·have:=h1 x q;exact .inr ⟨om,.inr q⟩
    ·rintro(rfl |⟨q1,rfl |q2⟩)
     ·exact .inl rfl
     ·exact .inr (.inl rfl)
     ·exact .inr (.inr q2)
theorem Ef {v:Vl}:∀{l:List Vl},l.Pairwise (fun a b=>a.key<b.key)→(np l v).Pairwise fun a b=>a.key<b.key
 |[],_=>by simp[np]
 |a::l,h=>by
  obtain⟨h1,h2⟩:=List.pairwise_cons.1 h;unfold np;by_cases c1:a.key<v.key
  ·rw[if_pos c1,List.pairwise_cons];refine⟨fun x hx=>?_,Ef h2⟩;rcases(vL h2).1 hx with rfl |⟨_,q⟩
   ·exact c1
   ·exact h1 x q
  ·rw[if_neg c1];by_cases c2:a.key=v.key
   ·rw[if_pos c2,List.pairwise_cons];exact⟨fun x hx=>by have:=h1 x hx;omega,h2⟩
   ·rw[if_neg c2,List.pairwise_cons];refine⟨fun x hx=>?_,h⟩;rcases List.mem_cons.1 hx with rfl |q
    ·omega
    ·have:=h1 x q;omega
theorem Rel.put {es:Es} {r:List Vl} (H:Rel es r) (v:Vl):Rel (ni es v.key (v.nY,v.data)) (np r v):=by
 refine⟨vG H.nodup,Ef H.up,fun x=>?_⟩;rw[IY H.nodup,vL H.up,H.same];constructor
 ·rintro(q|q)
  ·obtain⟨k,a,d⟩:=x;obtain⟨k',a',d'⟩:=v;cases q;exact .inl rfl
  ·exact .inr q
 ·rintro(rfl |q)
  ·exact .inl rfl
  ·exact .inr q
theorem Eg {x:Vl}:∀{l:List Vl},l.Pairwise (fun a b=>a.key<b.key)→x∈l→B3 l x.key=(x,true)
 |[],_,h=>by cases h
 |a::l,h,hx=>by
  obtain⟨h1,h2⟩:=List.pairwise_cons.1 h;unfold B3;rcases List.mem_cons.1 hx with rfl |q
  ·rw[if_pos rfl]
  ·have:=h1 x q;rw[if_neg om];exact Eg h2 q
theorem Ja {k:Int}:∀{l:List Vl},(∀x∈l,x.key≠k)→B3 l k=(⟨k,0,[]⟩,false)
 |[],_=>rfl
 |a::l,h=>by
  unfold B3;rw[if_neg (h a List.mem_cons_self)];exact Ja fun x hx=>h x (List.mem_cons_of_mem _ hx)
theorem Rel.get {es:Es} {r:List Vl} (H:Rel es r) (k:Int):(BF es k).1=(B3 r k).1.nY:=by
 unfold BF;cases hk:e8 es k with
 |none=>
  have hn:=vH.1 hk;rw[Ja fun x hx e=>hn (by
   have:=(H.same x).2 hx;rw[←e];exact List.mem_map.2 ⟨_,this,rfl⟩)]
  rfl
 |some x=>
  have hm:=(jP H.nodup).1 hk;have:=(H.same ⟨k,x.1,x.2⟩).1 hm;rw[show B3 r k=_ from Eg (x:=⟨k,x.1,x.2⟩) H.up this];rfl
theorem Rel.do {es:Es} {r:List Vl} (H:Rel es r) (ps:List Vl):Rel (wR es ps) (JQ r ps):=by
 induction ps generalizing es r with
 |nil=>exact H
 |cons p ps ih=>
  show Rel (wR _ ps) (JQ (oC r p) ps);refine ih ?_;unfold oC;rw[H.get p.key];split
  ·exact H.put ⟨p.key,IntKind.u64.wrap (p.nY+1),p.data⟩
  ·exact H
theorem Rel.keys {es:Es} {r:List Vl} (H:Rel es r):dE (fQ es)=r.map (·.key):=by
 have hs:(r.map (·.key)).Pairwise (· <·):=List.pairwise_map.2 H.up;have hp:(fQ es).Perm (r.map (·.key)):=by
  refine(List.perm_ext_iff_of_nodup H.nodup (hs.imp fun h=>by omega)).2 fun k=>?_;constructor
  ·intro hk;obtain⟨e,he,rfl⟩:=List.mem_map.1 hk;exact List.mem_map.2 ⟨⟨e.1,e.2.1,e.2.2⟩,(H.same ⟨e.1,e.2.1,e.2.2⟩).1 he,rfl⟩
  ·intro hk;obtain⟨x,hx,rfl⟩:=List.mem_map.1 hk;exact List.mem_map.2 ⟨_,(H.same x).2 hx,rfl⟩
 have h1:dE (r.map (·.key))=r.map (·.key):=List.mergeSort_of_pairwise (hs.imp fun h=>decide_eq_true om);rw[←h1];exact mergeSort_perm hp
theorem Rel.known {es:Es} {r:List Vl} (H:Rel es r) {x:Vl} (hx:x∈r):e8 es x.key=some (x.nY,x.data):=(jP H.nodup).2 ((H.same x).2 hx)
end Go.M
end
