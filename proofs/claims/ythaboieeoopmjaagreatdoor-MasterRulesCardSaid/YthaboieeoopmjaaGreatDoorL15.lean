/-
  Part 15 of the library that the proof leans on.
-/
import Derived.Test.YthaboieeoopmjaaGreatDoorL12
import Derived.Test.YthaboieeoopmjaaGreatDoorL13
import Derived.Test.YthaboieeoopmjaaGreatDoorL14
namespace Go.M
open Go Go.Proofs
def WY:List Value:=[
 .string ⟨#[]⟩,.int .i64 0,.int .i64 0,.int .i64 0,.int .i64 0,.int .i64 0,.int .i64 0,
 .string ⟨#[112,114,101,112,97,114,101]⟩,.int .i64 4,.int .i64 32,.int .i64 0,.int .i64 0,.int .i64 0,.int .i64 0,
 .string ⟨#[112,114,111,109,105,115,101]⟩,.int .i64 4,.int .i64 32,.int .i64 4096,.int .i64 0,.int .i64 0,.int .i64 0,
 .string ⟨#[97,99,99,101,112,116]⟩,.int .i64 4,.int .i64 32,.int .i64 1024,.int .i64 0,.int .i64 0,.int .i64 0,
 .string ⟨#[97,99,99,101,112,116,101,100]⟩,.int .i64 4,.int .i64 32,.int .i64 0,.int .i64 0,.int .i64 0,.int .i64 0,
 .string ⟨#[99,104,111,115,101,110]⟩,.int .i64 32,.int .i64 1024,.int .i64 0,.int .i64 0,.int .i64 0,.int .i64 0,
 .string ⟨#[98,101,97,116]⟩,.int .i64 4,.int .i64 32,.int .i64 0,.int .i64 0,.int .i64 0,.int .i64 0,
 .string ⟨#[119,97,110,116]⟩,.int .i64 32,.int .i64 0,.int .i64 0,.int .i64 0,.int .i64 0,.int .i64 0,
 .string ⟨#[114,101,102,117,115,101]⟩,.int .i64 4,.int .i64 0,.int .i64 0,.int .i64 0,.int .i64 0,.int .i64 0,
 .string ⟨#[114,101,112,111,114,116]⟩,.int .i64 1024,.int .i64 0,.int .i64 0,.int .i64 0,.int .i64 0,.int .i64 0,
 .string ⟨#[108,111,99,97,116,101]⟩,.int .i64 1,.int .i64 0,.int .i64 0,.int .i64 0,.int .i64 0,.int .i64 0,
 .string ⟨#[99,111,110,102,105,103]⟩,.int .i64 2048,.int .i64 0,.int .i64 0,.int .i64 0,.int .i64 0,.int .i64 0,
 .string ⟨#[112,117,115,104]⟩,.int .i64 1,.int .i64 2,.int .i64 8,.int .i64 16,.int .i64 8192,.int .i64 0,
 .string ⟨#[97,99,107]⟩,.int .i64 1,.int .i64 2,.int .i64 8,.int .i64 16,.int .i64 64,.int .i64 32,
 .string ⟨#[112,97,114,116]⟩,.int .i64 1,.int .i64 2,.int .i64 8,.int .i64 32,.int .i64 64,.int .i64 16384,
 .string ⟨#[113,117,101,114,121]⟩,.int .i64 1,.int .i64 2,.int .i64 64,.int .i64 256,.int .i64 0,.int .i64 0,
 .string ⟨#[116,111,108,100]⟩,.int .i64 1,.int .i64 2,.int .i64 64,.int .i64 256,.int .i64 512,.int .i64 0,
 .string ⟨#[119,114,105,116,101]⟩,.int .i64 1,.int .i64 2,.int .i64 8192,.int .i64 0,.int .i64 0,.int .i64 0,
 .string ⟨#[119,114,111,116,101]⟩,.int .i64 64,.int .i64 128,.int .i64 512,.int .i64 0,.int .i64 0,.int .i64 0,
 .string ⟨#[114,101,97,100]⟩,.int .i64 1,.int .i64 2,.int .i64 64,.int .i64 256,.int .i64 0,.int .i64 0,
 .string ⟨#[103,111,116]⟩,.int .i64 64,.int .i64 256,.int .i64 512,.int .i64 16384,.int .i64 0,.int .i64 0]
def FA:pF:=[(0,WY)]
noncomputable def E0:=Fy Tryz.prog FA (Pv FA [] (Pr [4] [(96,[238,136,175])] [(125,[238,175])] [(213,uU),(89,l7)]))
noncomputable def T0:=tES E0 [35,91] [47]
set_option maxRecDepth 100000
theorem Ps:[35,91].all (Ff E0)=true:=by kernel_rfl
theorem WZ (g:FuncId) (h:iN g [47]=true):x7 E0 g:=by
 have:=kZ h;simp only[List.mem_cons,List.not_mem_nil,or_false]at this;subst this;exact Pw (show E0.func 47=some Tryz.f47 by kernel_rfl) (fun _ _=>rfl) rfl (by kernel_rfl)
theorem L0:ct T0 E0:=O3 (fun t z h=>by
 simp only[E0,Fy,ew,Option.bind_eq_some_iff,aj,Option.some.injEq]at h;obtain⟨i,h1,z',h2,h3,rfl⟩:=h;exact h3) Ps WZ
theorem VC.W1 {E:Env} {g:FuncId} {c0:Nat} {o0:Ob} (hf:(E.func g).isSome=true) (ho:∀b h,E.qD b g [] h=some (.bool true,h)):VC E g c0 [] o0 (fun r o c=>r= .s (.bool true)∧o=o0∧c=c0):=
 VC.qD hf (fun b a h ha=>by
  have:a=[]:=by simpa using ha
  subst this;exact ho b h) rfl
theorem Kf (es:List (Value×TV)):VC E0 212 1 [.mp 0] [(0,.map (dV .i64) es)] (fun r o c=>r= .cW 238 [] [.ptr 1 0]∧c=2∧o=[(1,.cells [.mp 0]),(0,.map (dV .i64) es)]):=by
 refine en L0 Tryz.f212 ?_;exact⟨[],[some 0,some 1],_,_,_,t3,rfl,rfl,rfl⟩
set_option maxRecDepth 100000
set_option maxHeartbeats 2000000
@[reducible] def aW (n:Int):List TV:=[.s (.int .i64 n)]
def pD (n:Int):Bool:=decide (n≥1∧n≤63)
theorem uW (n:Int):VC E0 128 0 [.s (.int .i64 n)] [] (RR (.s (.bool (pD n))) 0 []):=by
 refine en L0 Tryz.f128 ?_
 repeat'(first|((first|(refine⟨fun h=>?_,fun h=>?_⟩)|(refine cg (fun h=>?_) (fun h=>?_))|(refine cd (fun h=>?_) (fun h=>?_)))<;>(conv=>whnf)))
 all_goals(refine⟨[],[],[],_,_,⟨?_,.nil,rfl⟩,rfl,rfl,rfl⟩)
 all_goals(refine .s (Lz.of (an ?_));simp[pD, *];try omega)
theorem Dl (s:Nat) (L:List Int) (hs:tu s) (hL:∀x∈L,m5 x) (hl:L.length<1000000):VC E0 89 0 [.s (.int .u64 s),.sl 1 (L.map aW) false] [] (RR (.s (.int .u64 (bZ s L))) 0 []):=by
 refine VC.Th L0 (show E0.func 89=some Tryz.f89 by kernel_rfl) (fun base ρ F h S b7 _ H=>(Tk (pre:=[.s (.int .u64 s)]) H:Fq l7 b7 h=none)) rfl rfl [] ?_;refine wh ?_;refine⟨fun k f o c=>∃j:Nat,j≤L.length∧k=L.length - j∧c=0∧f=[(0,.s (.int .u64 (bZ s (L.take j)))),(9,.sl 1 (L.map aW) false),(10,.s (.int .i64 L.length)),(11,.s (.int .i64 j))]∧o=[],⟨L.length,?_⟩,?_⟩
 ·refine⟨[],[],?_⟩
  iterate 3 constructor
  refine⟨⟨?_,?_,?_⟩,⟨0,Nat.zero_le _,rfl,rfl,rfl,rfl⟩⟩
  all_goals(repeat' first|exact LF|constructor)
  ·refine Lz.int ?_;have:=Dk s hs.1;have h2:=hs.2;rw[show s / 2*2=s by omega]at this;exact this
  all_goals exact Lz.of (by simp[goInt])
 ·rintro k f1 o1 c1 ⟨j,hj,rfl,rfl,rfl,rfl⟩;refine wh ?_;refine sp ?_ ?_<;>intro h
  ·have h:j<L.length:=by simpa using h
   have hw:=la hs (fun x hx=>hL x (List.mem_of_mem_take hx)) (L:=L.take j);have vn:bZ s (L.take (j+1))=bZ s (L.take j)|||2 ^ L[j].toNat:=by rw[List.take_succ_eq_append_getElem h,yN]
   have hx:=yM (hL _ (List.getElem_mem h));generalize hwe:bZ s (L.take j)=w at*
   refine wh ?_;refine jg h ?_;generalize LG:L[j]=x at*
   rcases hx with rfl |rfl |rfl |rfl |rfl
   all_goals
    refine wh ?_;refine⟨[],[],_,_,_,_,uW _,t3,cw ?_⟩;refine⟨L.length - (j+1),?_,om⟩;refine⟨[],[],?_⟩
    iterate 3 constructor
    refine⟨⟨?_,?_,?_⟩,⟨j+1,h,rfl,rfl,rfl,rfl⟩⟩
    all_goals(repeat' first|exact LF|constructor)
    refine Lz.int ?_;rw[vn];exact Vb w hw.1 _ (by decide)
  ·have h':j=L.length:=by have:¬j<L.length:=by simpa using h
                          omega
   subst h';refine wh ?_;rw[List.take_length];exact⟨[],[],_,_,_,t3,rfl,rfl,rfl⟩
theorem Tp (s:Nat) (hs:s<64):VC E0 178 0 [.s (.int .u64 s)] [] (RR (.s (.int .i64 (uV s))) 0 []):=by
 refine en L0 Tryz.f178 ?_;refine⟨[],[],?_⟩
 iterate 3 constructor
 refine⟨⟨?_,?_,?_⟩,rfl,rfl,rfl⟩
 all_goals(repeat' first|exact LF|constructor)
 refine Lz.int ?_;revert s;decide+kernel
theorem pH (s:Nat) (hs:s<64):VC E0 129 0 [.s (.int .u64 s)] [] (RR (.s (.int .i64 (uV (s / 2*2)))) 0 []):=by
 refine en L0 Tryz.f129 ?_;refine⟨[],[],[],_,_,_,Tp (s / 2*2) om,⟨.cons (.s (Lz.int (Dk s hs))) .nil,.nil,by rfl⟩,?_⟩;rintro r o' c' ⟨rfl,rfl,rfl⟩;refine wh ?_;exact⟨[],[],_,_,_,t3,rfl,rfl,rfl⟩
theorem nh (n:Int) (h:1≤n) (h2:n≤1000):VC E0 130 0 [.s (.int .i64 n)] [] (RR (.s (.int .i64 (n.toNat / 2+1:Nat))) 0 []):=by
 refine en L0 Tryz.f130 ?_;refine sp ?_ ?_<;>intro h0
 ·omega
 ·refine wh ?_;refine⟨[],[],?_⟩
  iterate 3 constructor
  refine⟨⟨?_,?_,?_⟩,rfl,rfl,rfl⟩
  all_goals(repeat' first|exact LF|constructor)
  refine Lz.int ?_;rw[Int.tdiv_eq_ediv_of_nonneg om,IntWalk.i64_in (n / 2) om,IntWalk.i64_in (n / 2+1) om];omega
theorem uX (s:Nat) (n:Int) (hs:s<64) (hn:m5 n):VC E0 90 0 [.s (.int .u64 s),.s (.int .i64 n)] [] (RR (.s (.bool (l6 s n))) 0 []):=by
 rcases yM hn with rfl |rfl |rfl |rfl |rfl
 ·refine en L0 Tryz.f90 ?_
  repeat((first|(refine⟨fun h_=>?_,fun h_=>?_⟩)|(refine cg (fun h_=>?_) (fun h_=>?_))|(refine cd (fun h_=>?_) (fun h_=>?_)))<;>first|(exfalso;revert h_;decide;done)|(exact absurd rfl h_)|(have bj:=True.intro;clear bj;(conv=>whnf)))
  refine⟨[],[],[],_,_,_,pH (s&&& (2 ^ 2 - 1)) (Nat.lt_of_le_of_lt (Nat.and_le_left (n:=s)) hs),⟨.cons (.s (Lz.int (tw s hs 2 (by decide)))) .nil,.nil,by rfl⟩,?_⟩;rintro r o' c' ⟨rfl,rfl,rfl⟩;refine wh ?_;refine⟨[],[],_,_,_,_,nh 1 (by decide) (by decide),t3,cw ?_⟩;refine sp ?_ ?_<;>intro hq
  ·have hq:(uV ((s&&& (2 ^ 2 - 1)) / 2*2):Int)≥(((1:Int).toNat / 2+1:Nat):Int):=hq;refine wh ?_;refine⟨[],[],_,_,_,tx ?_,rfl,rfl,rfl⟩;exact Lz.of (an (Eq.symm (decide_eq_true (Int.ofNat_le.1 hq))))
  ·have hq:¬(uV ((s&&& (2 ^ 2 - 1)) / 2*2):Int)≥(((1:Int).toNat / 2+1:Nat):Int):=hq;refine wh ?_;refine⟨[],[],_,_,_,tx ?_,rfl,rfl,rfl⟩;exact Lz.of (an (Eq.symm (decide_eq_false fun h=>hq (Int.ofNat_le.2 h))))
 ·refine en L0 Tryz.f90 ?_
  repeat((first|(refine⟨fun h_=>?_,fun h_=>?_⟩)|(refine cg (fun h_=>?_) (fun h_=>?_))|(refine cd (fun h_=>?_) (fun h_=>?_)))<;>first|(exfalso;revert h_;decide;done)|(exact absurd rfl h_)|(have bj:=True.intro;clear bj;(conv=>whnf)))
  refine⟨[],[],[],_,_,_,pH (s&&& (2 ^ 3 - 1)) (Nat.lt_of_le_of_lt (Nat.and_le_left (n:=s)) hs),⟨.cons (.s (Lz.int (tw s hs 3 (by decide)))) .nil,.nil,by rfl⟩,?_⟩;rintro r o' c' ⟨rfl,rfl,rfl⟩;refine wh ?_;refine⟨[],[],_,_,_,_,nh 2 (by decide) (by decide),t3,cw ?_⟩;refine sp ?_ ?_<;>intro hq
  ·have hq:(uV ((s&&& (2 ^ 3 - 1)) / 2*2):Int)≥(((2:Int).toNat / 2+1:Nat):Int):=hq;refine wh ?_;refine⟨[],[],_,_,_,tx ?_,rfl,rfl,rfl⟩;exact Lz.of (an (Eq.symm (decide_eq_true (Int.ofNat_le.1 hq))))
  ·have hq:¬(uV ((s&&& (2 ^ 3 - 1)) / 2*2):Int)≥(((2:Int).toNat / 2+1:Nat):Int):=hq;refine wh ?_;refine⟨[],[],_,_,_,tx ?_,rfl,rfl,rfl⟩;exact Lz.of (an (Eq.symm (decide_eq_false fun h=>hq (Int.ofNat_le.2 h))))
 ·refine en L0 Tryz.f90 ?_
  repeat((first|(refine⟨fun h_=>?_,fun h_=>?_⟩)|(refine cg (fun h_=>?_) (fun h_=>?_))|(refine cd (fun h_=>?_) (fun h_=>?_)))<;>first|(exfalso;revert h_;decide;done)|(exact absurd rfl h_)|(have bj:=True.intro;clear bj;(conv=>whnf)))
  refine⟨[],[],[],_,_,_,pH (s&&& (2 ^ 4 - 1)) (Nat.lt_of_le_of_lt (Nat.and_le_left (n:=s)) hs),⟨.cons (.s (Lz.int (tw s hs 4 (by decide)))) .nil,.nil,by rfl⟩,?_⟩;rintro r o' c' ⟨rfl,rfl,rfl⟩;refine wh ?_;refine⟨[],[],_,_,_,_,nh 3 (by decide) (by decide),t3,cw ?_⟩;refine sp ?_ ?_<;>intro hq
  ·have hq:(uV ((s&&& (2 ^ 4 - 1)) / 2*2):Int)≥(((3:Int).toNat / 2+1:Nat):Int):=hq;refine wh ?_;refine⟨[],[],_,_,_,tx ?_,rfl,rfl,rfl⟩;exact Lz.of (an (Eq.symm (decide_eq_true (Int.ofNat_le.1 hq))))
  ·have hq:¬(uV ((s&&& (2 ^ 4 - 1)) / 2*2):Int)≥(((3:Int).toNat / 2+1:Nat):Int):=hq;refine wh ?_;refine⟨[],[],_,_,_,tx ?_,rfl,rfl,rfl⟩;exact Lz.of (an (Eq.symm (decide_eq_false fun h=>hq (Int.ofNat_le.2 h))))
 ·refine en L0 Tryz.f90 ?_
  repeat((first|(refine⟨fun h_=>?_,fun h_=>?_⟩)|(refine cg (fun h_=>?_) (fun h_=>?_))|(refine cd (fun h_=>?_) (fun h_=>?_)))<;>first|(exfalso;revert h_;decide;done)|(exact absurd rfl h_)|(have bj:=True.intro;clear bj;(conv=>whnf)))
  refine⟨[],[],[],_,_,_,pH (s&&& (2 ^ 5 - 1)) (Nat.lt_of_le_of_lt (Nat.and_le_left (n:=s)) hs),⟨.cons (.s (Lz.int (tw s hs 5 (by decide)))) .nil,.nil,by rfl⟩,?_⟩;rintro r o' c' ⟨rfl,rfl,rfl⟩;refine wh ?_;refine⟨[],[],_,_,_,_,nh 4 (by decide) (by decide),t3,cw ?_⟩;refine sp ?_ ?_<;>intro hq
  ·have hq:(uV ((s&&& (2 ^ 5 - 1)) / 2*2):Int)≥(((4:Int).toNat / 2+1:Nat):Int):=hq;refine wh ?_;refine⟨[],[],_,_,_,tx ?_,rfl,rfl,rfl⟩;exact Lz.of (an (Eq.symm (decide_eq_true (Int.ofNat_le.1 hq))))
  ·have hq:¬(uV ((s&&& (2 ^ 5 - 1)) / 2*2):Int)≥(((4:Int).toNat / 2+1:Nat):Int):=hq;refine wh ?_;refine⟨[],[],_,_,_,tx ?_,rfl,rfl,rfl⟩;exact Lz.of (an (Eq.symm (decide_eq_false fun h=>hq (Int.ofNat_le.2 h))))
 ·refine en L0 Tryz.f90 ?_
  repeat((first|(refine⟨fun h_=>?_,fun h_=>?_⟩)|(refine cg (fun h_=>?_) (fun h_=>?_))|(refine cd (fun h_=>?_) (fun h_=>?_)))<;>first|(exfalso;revert h_;decide;done)|(exact absurd rfl h_)|(have bj:=True.intro;clear bj;(conv=>whnf)))
  refine⟨[],[],[],_,_,_,pH (s&&& (2 ^ 6 - 1)) (Nat.lt_of_le_of_lt (Nat.and_le_left (n:=s)) hs),⟨.cons (.s (Lz.int (tw s hs 6 (by decide)))) .nil,.nil,by rfl⟩,?_⟩;rintro r o' c' ⟨rfl,rfl,rfl⟩;refine wh ?_;refine⟨[],[],_,_,_,_,nh 5 (by decide) (by decide),t3,cw ?_⟩;refine sp ?_ ?_<;>intro hq
  ·have hq:(uV ((s&&& (2 ^ 6 - 1)) / 2*2):Int)≥(((5:Int).toNat / 2+1:Nat):Int):=hq;refine wh ?_;refine⟨[],[],_,_,_,tx ?_,rfl,rfl,rfl⟩;exact Lz.of (an (Eq.symm (decide_eq_true (Int.ofNat_le.1 hq))))
  ·have hq:¬(uV ((s&&& (2 ^ 6 - 1)) / 2*2):Int)≥(((5:Int).toNat / 2+1:Nat):Int):=hq;refine wh ?_;refine⟨[],[],_,_,_,tx ?_,rfl,rfl,rfl⟩;exact Lz.of (an (Eq.symm (decide_eq_false fun h=>hq (Int.ofNat_le.2 h))))
structure ai where
 slot:Int
 ao:Int
 kind:Int
 chain:Int
 aq:Int
 node:Int
def eL (v:ai):List TV:=[.s (.int .i64 v.slot),.s (.int .u64 v.ao),.s (.int .i64 v.kind),.s (.int .i64 v.chain),.s (.int .u64 v.aq),.s (.int .i64 v.node)]
def iF (e:Int×ai):Value×TV:=(.int .i64 e.1,.agg (eL e.2))
theorem W2:(E0.func 96).isSome=true:=by kernel_rfl
theorem L2 (kd:Nat) (es:List (Int×ai)) (gl:k8 (es.map (·.1))):VC E0 96 2 [.cW 238 [] [.ptr 1 0]] [(0,.map kd (es.map iF)),(1,.cells [.mp 0])] (fun r o c=>r= .tk 2∧c=3∧
      o=[(2,.arr 1 true ((bY (es.map (·.1))).map fun n=>[.s (.int .i64 n)])),(0,.map kd (es.map iF)),(1,.cells [.mp 0])]):=by
 have:=VC.sorted (E:=E0) (g:=96) (ky:=[238,136,175]) (k:=238) W2 (fun _ _=>rfl) rfl (kd:=kd) (es:=es.map fun e=>(e.1,TV.agg (eL e.2))) (by rw[List.map_map];exact gl);rw[List.map_map,List.map_map]at this;exact this
def As (es:List (Int×ai)) (n:Int):ai:=match es.find? (fun e=>e.1==n)with|some e=>e.2|none=>⟨0,0,0,0,0,0⟩
def rising (es:List (Int×ai)) (ak:Int) (ks:List Int):List ai:=(ks.filter fun n=>decide (ak≤n)).map (As es)
@[reducible] def adS (ak:Int) (n i:Nat):Fr:=[(0,.mp 0),(1,.s (.int .i64 ak)),(5,.tk 1),(10,.tk 2),(11,.s (.int .i64 n)),(12,.s (.int .i64 i))]
@[reducible] def adT (kd:Nat) (es:List (Int×ai)) (ak:Int) (ks:List Int) (i:Nat):Ob:=[(0,.map kd (es.map iF)),(1,.arr 6 true ((rising es ak (ks.take i)).map eL)),(2,.arr 1 true (ks.map fun n=>[.s (.int .i64 n)]))]
def W3 (kd:Nat) (es:List (Int×ai)) (ak:Int) (ks:List Int) (k:Nat) (f:Fr) (o:Ob) (c:Nat):Prop:=
 ∃i:Nat,i≤ks.length∧k=ks.length - i∧c=3∧f=adS ak ks.length i∧o=adT kd es ak ks i
theorem Px (es:List (Int×ai)) (n:Int) (h:n∈es.map (·.1)):ft (es.map iF) (.int .i64 n)=some (.agg (eL (As es n))):=by
 induction es with
 |nil=>simp at h
 |cons e es ih=>
  rw[List.map_cons];unfold ft;by_cases he:e.1=n
  ·have:lV (.int .i64 n) (iF e).1=true:=by simp[lV,iF,he]
   rw[this];simp[iF,As,he]
  ·have:lV (.int .i64 n) (iF e).1=false:=by simp[lV,iF];exact fun h=>he h.symm
   rw[this];have:=ih (by rw[List.map_cons]at h;rcases List.mem_cons.1 h with h|h;exact absurd h.symm he;exact h);simp only[this];simp[As,he]
theorem vQ (es:List (Int×ai)) (ak:Int) (ks:List Int) (i:Nat) (h:i<ks.length):rising es ak (ks.take (i+1))=rising es ak (ks.take i)++(if ak≤ks[i]then [As es ks[i]]else []):=by
 unfold rising;rw[List.take_succ_eq_append_getElem h,List.filter_append,List.map_append];by_cases hf:ak≤ks[i]<;>simp[hf]
theorem Bu (es:List (Int×ai)) (ak:Int) (gl:k8 (es.map (·.1))) (pj:es.length<1000000):VC E0 172 1 [.mp 0,.s (.int .i64 ak)] [(0,.map (dV .i64) (es.map iF))] (fun r o c=>r= .tk 1∧c=2∧o=[(1,.arr 6 true ((rising es ak (bY (es.map (·.1)))).map eL)),(0,.map (dV .i64) (es.map iF))]):=by
 refine en L0 Tryz.f172 ?_;refine⟨[],[some 0],_,_,_,_,Kf (es.map iF),t3,cw ?_⟩;refine⟨[],[some 0,some 2],_,_,_,_,L2 (dV .i64) es gl,t3,cw ?_⟩;have oI:∀x∈bY (es.map (·.1)),x∈es.map (·.1):=fun x hx=>(List.mergeSort_perm _ _).mem_iff.1 hx;have ue:(bY (es.map (·.1))).length≤1099511627776:=by rw[ia];exact gl.1
 have uk:(bY (es.map (·.1))).length<1000000:=by rw[ia];simpa using pj
 generalize wJ:bY (es.map (·.1))=ks at*
 refine⟨W3 (dV .i64) es ak ks,⟨ks.length,?_⟩,?_⟩
 ·refine⟨[],[some 0,none,some 5],_,_,_,tx ?_,⟨0,Nat.zero_le _,rfl,rfl,rfl,rfl⟩⟩;exact Lz.of (by simp[goInt])
 ·rintro k f1 o1 c1 ⟨i,hi,rfl,rfl,rfl,rfl⟩;refine wh ?_;refine sp ?_ ?_<;>intro Nm
  ·have Nm:i<ks.length:=by simpa using Nm
   refine wh ?_;refine⟨⟨om,by simp;omega⟩,[.s (.int .i64 ks[i])],by simp[Nm],?_⟩;refine wh ?_;refine sp ?_ ?_<;>intro hf
   ·have hf:ak≤ks[i]:=hf;refine wh ?_;refine⟨_,Px es ks[i] (oI _ (List.getElem_mem Nm)),?_⟩;refine wh ?_;have hle:(rising es ak (ks.take i)).length≤ks.length:=by
     unfold rising;rw[List.length_map];exact Nat.le_trans (List.length_filter_le _ _) (by rw[List.length_take];omega)
    refine⟨by simp;omega,?_⟩;refine wh ?_;refine⟨ks.length - (i+1),?_,om⟩;refine⟨[],[some 0,some 4,some 2],?_⟩
    iterate 3 constructor
    refine⟨⟨?_,?_,?_⟩,⟨i+1,Nm,rfl,rfl,rfl,rfl⟩⟩
    all_goals(repeat' first|exact LF|constructor)
    ·rw[vQ _ _ _ _ Nm,if_pos hf,List.map_append];exact Lz.rfl
   ·have hf:¬ak≤ks[i]:=hf;refine wh ?_;refine⟨ks.length - (i+1),?_,om⟩;refine⟨[],[some 0,some 1,some 2],?_⟩
    iterate 3 constructor
    refine⟨⟨?_,?_,?_⟩,⟨i+1,Nm,rfl,rfl,rfl,rfl⟩⟩
    all_goals(repeat' first|exact LF|constructor)
    ·rw[vQ _ _ _ _ Nm,if_neg hf,List.append_nil];exact Lz.rfl
  ·have Nm:¬i<ks.length:=by simpa using Nm
   refine wh ?_;refine⟨[],[some 0,some 1],?_⟩
   iterate 3 constructor
   refine⟨⟨?_,?_,?_⟩,rfl,rfl,rfl⟩
   all_goals(repeat' first|exact LF|constructor)
   rw[List.take_of_length_le om];exact Lz.rfl
@[reducible] def tB (es:List (Int×ai)):TO:=.map (dV .i64) (es.map iF)
@[reducible] def arV (l:List ai):TO:=.arr 6 true (l.map eL)
@[reducible] def yQ (p:Int) (m:Nat):TO:=.cells [.s (.int .u64 p),.mp m]
def kz (es:List (Int×ai)) (ak:Int):List ai:=rising es ak (bY (es.map (·.1)))
theorem Py (p:Int) (es:List (Int×ai)) (ak:Int) (gl:k8 (es.map (·.1))) (pj:es.length<1000000):VC E0 120 2 [.ptr 0 0,.s (.int .i64 ak)] [(0,yQ p 1),(1,tB es)]
 (fun r o c=>r= .tk 2∧c=3∧o=[(2,arV (kz es ak)),(0,yQ p 1),(1,tB es)]):=by
 refine en L0 Tryz.f120 ?_;refine⟨[],[some 1],_,_,_,_,Bu es ak gl pj,t3,cw ?_⟩;exact⟨[],[some 0,some 1,some 3],_,_,_,t3,rfl,rfl,rfl⟩
theorem W4:VC E0 16 0 [] [] (fun r o c=>r= .ptr 0 0∧c=2∧o=[(0,yQ 0 1),(1,tB [])]):=by
 refine en L0 Tryz.f16 ?_;exact⟨[],[some 1,some 0],_,_,_,t3,rfl,rfl,rfl⟩
def lf (n:Int):Bool:=decide (n≥1∧n≤5)
theorem uY (n:Int):VC E0 138 0 [.s (.int .i64 n)] [] (fun r o c=>r= .s (.bool (lf n))∧c=0∧o=[]):=by
 refine en L0 Tryz.f138 ?_
 repeat'(first|((first|(refine⟨fun h=>?_,fun h=>?_⟩)|(refine cg (fun h=>?_) (fun h=>?_))|(refine cd (fun h=>?_) (fun h=>?_)))<;>(conv=>whnf)))
 all_goals(refine⟨[],[],[],_,_,⟨?_,.nil,rfl⟩,rfl,rfl,rfl⟩)
 all_goals(refine .s (Lz.of (an ?_));simp[lf, *];try omega)
def bP (b:Int):Bool:=decide (IntKind.u64.wrap (b.tdiv 8)≥1)&&decide (IntKind.u64.wrap (b.tdiv 8)<1152921504606846976)&&lf (IntKind.i64.wrap (b.tmod 8))
theorem FB (b:Int):VC E0 112 0 [.s (.int .u64 b)] [] (fun r o c=>r= .s (.bool (bP b))∧c=0∧o=[]):=by
 refine en L0 Tryz.f112 ?_;refine sp ?_ ?_<;>intro h1
 ·refine wh ?_;refine sp ?_ ?_<;>intro h2
  ·refine wh ?_;refine⟨[],[],_,_,_,_,uY (IntKind.i64.wrap (b.tmod 8)),t3,cw ?_⟩;refine⟨[],[],?_⟩
   iterate 3 constructor
   refine⟨⟨?_,?_,?_⟩,rfl,rfl,rfl⟩
   all_goals(repeat' first|exact LF|constructor)
   refine Lz.of (an ?_);simp[bP,h1,h2]
  ·refine wh ?_;refine⟨[],[],?_⟩
   iterate 3 constructor
   refine⟨⟨?_,?_,?_⟩,rfl,rfl,rfl⟩
   all_goals(repeat' first|exact LF|constructor)
   refine Lz.of (an ?_);simp[bP,h1,h2]
 ·refine wh ?_;refine⟨[],[],?_⟩
  iterate 3 constructor
  refine⟨⟨?_,?_,?_⟩,rfl,rfl,rfl⟩
  all_goals(repeat' first|exact LF|constructor)
  refine Lz.of (an ?_);simp[bP,h1]
def dx (p b:Int) (es:List (Int×ai)) (ak:Int):Int×List ai×Int:=
 if bP b=false∨ak<0∨ak>512 then(p,[],1)else if b<p then(p,[],10)else(b,kz es ak,0)
def aaL (es:List (Int×ai)) (q:Int×List ai×Int) (r:TV) (o:Ob) (c:Nat):Prop:=
 r= .c4 [.tk 2,.s (.int .i64 q.2.2)]∧c=3∧o=[(2,arV q.2.1),(0,yQ q.1 1),(1,tB es)]
theorem Tq (p b:Int) (es:List (Int×ai)) (ak:Int) (gl:k8 (es.map (·.1))) (pj:es.length<1000000):VC E0 83 2 [.ptr 0 0,.s (.int .u64 b),.s (.int .i64 ak)] [(0,yQ p 1),(1,tB es)]
 (aaL es (dx p b es ak)):=by
 refine en L0 Tryz.f83 ?_;refine⟨[],[],_,_,_,_,FB b,t3,cw ?_⟩;cases hb:bP b with
 |false=>
  rw[show dx p b es ak=(p,[],1) by unfold dx;grind];refine wh ?_;exact⟨[],[some 0,some 1,none],_,_,_,t3,rfl,rfl,rfl⟩
 |true=>
  refine wh ?_;refine sp ?_ ?_<;>intro h1
  ·rw[show dx p b es ak=(p,[],1) by unfold dx;grind];refine wh ?_;exact⟨[],[some 0,some 1,none],_,_,_,t3,rfl,rfl,rfl⟩
  ·refine wh ?_;refine sp ?_ ?_<;>intro h2
   ·rw[show dx p b es ak=(p,[],1) by unfold dx;grind];refine wh ?_;exact⟨[],[some 0,some 1,none],_,_,_,t3,rfl,rfl,rfl⟩
   ·refine wh ?_;refine sp ?_ ?_<;>intro h3
    ·rw[show dx p b es ak=(p,[],10) by unfold dx;grind];refine wh ?_;exact⟨[],[some 0,some 1,none],_,_,_,t3,rfl,rfl,rfl⟩
    ·rw[show dx p b es ak=(b,kz es ak,0) by unfold dx;grind];refine wh ?_;refine⟨[],[some 0,some 1],_,_,_,_,Py b es ak gl pj,t3,cw ?_⟩;exact⟨[],[some 0,some 1,some 4],_,_,_,t3,rfl,rfl,rfl⟩
def fK:List (Int×ai)→Int→Option ai
 |[],_=>none
 |e::es,n=>if n=e.1 then some e.2 else fK es n
theorem Bv (n:Int):∀es:List (Int×ai),ft (es.map iF) (.int .i64 n)=(fK es n).map fun w=>.agg (eL w)
 |[]=>rfl
 |e::es=>by
  rw[List.map_cons];unfold ft fK;by_cases he:n=e.1
  ·have:lV (.int .i64 n) (iF e).1=true:=by simp[lV,iF,he]
   rw[this,if_pos he];rfl
  ·have:lV (.int .i64 n) (iF e).1=false:=by simp[lV,iF,he]
   rw[this,if_neg he];exact Bv n es
def cZ:ai:=⟨0,0,0,0,0,0⟩
def mG:List (Int×ai)→Int→ai→List (Int×ai)
 |[],n,v=>[(n,v)]
 |e::es,n,v=>if n=e.1 then(n,v)::es else e::mG es n v
theorem tC (n:Int) (v:ai):∀es:List (Int×ai),dC (es.map iF) (.int .i64 n) (.agg (eL v))=(mG es n v).map iF
 |[]=>rfl
 |e::es=>by
  rw[List.map_cons];unfold dC mG;by_cases he:n=e.1
  ·have:lV (.int .i64 n) (iF e).1=true:=by simp[lV,iF,he]
   rw[this,if_pos he];rfl
  ·have:lV (.int .i64 n) (iF e).1=false:=by simp[lV,iF,he]
   rw[this,if_neg he];simp[tC n v es]
theorem iG {n:Int} {v:ai} {x:Int×ai}:∀{es:List (Int×ai)},(es.map (·.1)).Nodup→(x∈mG es n v↔x=(n,v)∨x.1≠n∧x∈es)
 |[],_=>by simp[mG]
 |e::es,h=>by
  simp only[List.map_cons,List.nodup_cons]at h;unfold mG;split
  ·rename_i he;have:∀y∈es,y.1≠n:=fun y hy e1=>h.1 (by rw[←he,←e1];exact List.mem_map_of_mem hy);grind
  ·have:=iG (n:=n) (v:=v) (x:=x) h.2;grind
theorem qs {n:Int} {v:ai}:∀{es:List (Int×ai)},(mG es n v).map (·.1)=if n∈es.map (·.1)then es.map (·.1)else es.map (·.1)++[n]
 |[]=>by simp[mG]
 |e::es=>by
  have:=qs (n:=n) (v:=v) (es:=es);unfold mG;split
  ·rename_i he;subst he;simp
  ·rename_i he;simp only[List.map_cons,this,List.mem_cons,he,false_or];split<;>simp
theorem IA {n:Int} {v:ai} {es:List (Int×ai)} (h:(es.map (·.1)).Nodup):((mG es n v).map (·.1)).Nodup:=by
 rw[qs];split
 ·exact h
 ·rename_i hn;rw[List.nodup_append];refine⟨h,by simp,fun a ha b hb=>?_⟩;simp only[List.mem_singleton]at hb;subst hb;intro e;subst e;exact hn ha
def SS (l:List ai):Prop:=l.Pairwise fun a b=>a.slot<b.slot
theorem SS.ext {l l':List ai} (h:SS l) (h':SS l') (hm:∀x,x∈l↔x∈l'):l=l':=by
 have nd:∀{l:List ai},SS l→l.Nodup:=fun h=>h.imp fun h e=>by subst e;omega
 refine List.Perm.eq_of_pairwise (le:=fun a b:ai=>a.slot<b.slot) (fun a b _ _ h1 h2=>by omega) h h' ?_;exact(List.perm_ext_iff_of_nodup (nd h) (nd h')).2 hm
def put:List ai→ai→List ai
 |[],v=>[v]
 |x::l,v=>if x.slot<v.slot then x::put l v else if x.slot=v.slot then v::l else v::x::l
theorem gp {v x:ai}:∀{l:List ai},SS l→(x∈put l v↔x=v∨x.slot≠v.slot∧x∈l)
 |[],_=>by simp[put]
 |y::l,h=>by
  unfold SS at h;rw[List.pairwise_cons]at h;have ih:=gp (v:=v) (x:=x) (l:=l) h.2;unfold put;split
  ·have:=h.1;grind
  ·split
   ·have:=h.1;grind
   ·have:=h.1;grind
theorem yR {v:ai}:∀{l:List ai},SS l→SS (put l v)
 |[],_=>by simp[put,SS]
 |y::l,h=>by
  have h0:=h;unfold SS at h;rw[List.pairwise_cons]at h;unfold put;split
  ·unfold SS;rw[List.pairwise_cons];refine⟨fun a ha=>?_,yR h.2⟩;rw[gp h.2]at ha;rcases ha with rfl |⟨_,ha⟩
   ·assumption
   ·exact h.1 a ha
  ·split
   ·unfold SS;rw[List.pairwise_cons];exact⟨fun a ha=>by have:=h.1 a ha;omega,h.2⟩
   ·unfold SS;rw[List.pairwise_cons];refine⟨fun a ha=>?_,h0⟩;rcases List.mem_cons.1 ha with rfl |ha
    ·omega
    ·have:=h.1 a ha;omega
structure MV (es:List (Int×ai)):Prop where
 nd:(es.map (·.1)).Nodup
 key:∀e∈es,e.2.slot=e.1
def oh (es:List (Int×ai)):List ai:=(bY (es.map (·.1))).map (As es)
theorem yS {es:List (Int×ai)} (h:MV es) {e:Int×ai} (he:e∈es):As es e.1=e.2:=by
 unfold As;have:es.find? (fun x=>x.1==e.1)=some e:=by
  have nd:=h.nd;clear h
  induction es with
  |nil=>simp at he
  |cons y es ih=>
   simp only[List.map_cons,List.nodup_cons]at nd;rcases List.mem_cons.1 he with rfl |he
   ·simp
   ·have:y.1≠e.1:=fun e1=>nd.1 (by rw[e1];exact List.mem_map_of_mem he);simp[this,ih he nd.2]
 rw[this]
theorem gq {ks:List Int} {x:Int}:x∈bY ks↔x∈ks:=(List.mergeSort_perm ks _).mem_iff
theorem FC (ks:List Int):(bY ks).Pairwise (· ≤·):=by
 have tr:∀a b c:Int,decide (a≤b)=true→decide (b≤c)=true→decide (a≤c)=true:=fun a b c h1 h2=>by simp only[decide_eq_true_eq]at*;omega
 have to:∀a b:Int,(decide (a≤b)||decide (b≤a))=true:=fun a b=>by simp only[Bool.or_eq_true,decide_eq_true_eq];omega
 exact(List.pairwise_mergeSort tr to ks).imp fun h=>by simpa using h
theorem Pz {ks:List Int} (h:ks.Nodup):(bY ks).Pairwise (· <·):=by
 have h2:(bY ks).Nodup:=(List.mergeSort_perm ks _).nodup_iff.2 h;exact((FC ks).and h2).imp fun h=>by omega
theorem uZ {es:List (Int×ai)} (h:MV es) {n:Int} (hn:n∈es.map (·.1)):(As es n).slot=n:=by
 obtain⟨e,he,rfl⟩:=List.mem_map.1 hn;rw[yS h he,h.key e he]
theorem tD {es:List (Int×ai)} (h:MV es):SS (oh es):=by
 unfold SS oh;rw[List.pairwise_map];refine(List.Pairwise.and_mem.1 (Pz h.nd)).imp fun {a b} LH=>?_;rw[uZ h (gq.1 LH.1),uZ h (gq.1 LH.2.1)];exact LH.2.2
theorem lh {es:List (Int×ai)} (h:MV es) {x:ai}:x∈oh es↔(x.slot,x)∈es:=by
 unfold oh;rw[List.mem_map];constructor
 ·rintro⟨n,hn,rfl⟩;rw[gq]at hn;obtain⟨e,he,rfl⟩:=List.mem_map.1 hn;rw[yS h he,h.key e he];exact he
 ·intro hx;exact⟨x.slot,gq.2 (List.mem_map.2 ⟨_,hx,rfl⟩),yS h hx⟩
theorem FD (es:List (Int×ai)):(oh es).length=es.length:=by simp[oh,bY]
theorem yT {es:List (Int×ai)} (h:MV es) (ak:Int):rising es ak (bY (es.map (·.1)))=(oh es).filter fun v=>decide (ak≤v.slot):=by
 unfold rising oh;rw[List.filter_map]
 congr 1
 refine List.filter_congr fun n hn=>?_;simp only[Function.comp_apply];rw[uZ h (gq.1 hn)]
theorem MV.put {es:List (Int×ai)} (h:MV es) (v:ai):MV (mG es v.slot v):=by
 refine⟨IA h.nd,fun e he=>?_⟩;rw[iG h.nd]at he;rcases he with rfl |⟨_,he⟩
 ·rfl
 ·exact h.key e he
theorem FE {es:List (Int×ai)} (h:MV es) (v:ai):oh (mG es v.slot v)=put (oh es) v:=by
 refine(tD (h.put v)).ext (yR (tD h)) fun x=>?_;rw[lh (h.put v),iG h.nd,gp (tD h),lh h];constructor
 ·rintro(hx|⟨h1,h2⟩)
  ·left;exact congrArg Prod.snd hx
  ·right;exact⟨h1,h2⟩
 ·rintro(hx|⟨h1,h2⟩)
  ·left;rw[hx]
  ·right;exact⟨h1,h2⟩
def tF (l:List ai) (slot:Int):Option ai:=l.find? fun v=>v.slot==slot
theorem sb {n:Int} {v:ai}:∀{es:List (Int×ai)},(es.map (·.1)).Nodup→(fK es n=some v↔(n,v)∈es)
 |[],_=>by simp[fK]
 |e::es,h=>by
  simp only[List.map_cons,List.nodup_cons]at h;have ih:=sb (n:=n) (v:=v) h.2;unfold fK;split
  ·rename_i he;have:∀y∈es,y.1≠n:=fun y hy e1=>h.1 (by rw[←he,←e1];exact List.mem_map_of_mem hy);grind
  ·grind
theorem gP {l:List ai} (h:SS l) {n:Int} {v:ai}:tF l n=some v↔v∈l∧v.slot=n:=by
 unfold tF
 induction l with
 |nil=>simp
 |cons y l ih=>
  unfold SS at h;rw[List.pairwise_cons]at h;have:=ih h.2;have h1:=h.1;rw[List.find?_cons];split<;>grind
theorem W5 {α:Type} {a b:Option α} (h:∀x,a=some x↔b=some x):a=b:=by
 cases a with
 |none=>cases b with
  |none=>rfl
  |some y=>exact absurd ((h y).2 rfl) (by simp)
 |some x=>exact((h x).1 rfl).symm
theorem PA {es:List (Int×ai)} (h:MV es) (n:Int):fK es n=tF (oh es) n:=by
 refine W5 fun x=>?_;rw[sb h.nd,gP (tD h),lh h];constructor
 ·intro hx;have:=h.key _ hx;simp only at this;subst this;exact⟨hx,rfl⟩
 ·rintro⟨hx,rfl⟩;exact hx
def yU (k ch ep nd:Int):Int:=if k<0∨k≥5 then 1 else if k=0 then(if ch≠0∨ep≠0∨nd≠0 then 4 else 0)else if ch<0∨ch≥4∨ep<1∨nd<1∨nd>24 then 4 else 0
@[reducible] def aaM (k ch ep nd:Int):TV:=.agg [.s (.int .i64 k),.s (.int .i64 ch),.s (.int .u64 ep),.s (.int .i64 nd)]
theorem lk (k ch ep nd:Int):VC E0 121 0 [aaM k ch ep nd] [] (RR (.s (.int .i64 (yU k ch ep nd))) 0 []):=by
 refine en L0 Tryz.f121 ?_
 repeat'(first|((first|(refine⟨fun h=>?_,fun h=>?_⟩)|(refine cg (fun h=>?_) (fun h=>?_))|(refine cd (fun h=>?_) (fun h=>?_)))<;>(conv=>whnf)))
 all_goals(refine⟨[],[],[],_,_,⟨?_,.nil,rfl⟩,rfl,rfl,rfl⟩)
 all_goals(refine .s (Lz.int ?_);simp[nR,yU]at*;grind)
noncomputable def eqB {α:Type} (a b:α):Bool:=@decide (a=b) (Classical.propDecidable _)
theorem Kg {α:Type} {a b:α}:eqB a b=true↔a=b:=by unfold eqB;simp
theorem gu {α:Type} (l:List α) (i:Nat) (h:i<l.length):l.take (i+1)=l.take i++[l[i]]:=by rw[List.take_succ_eq_append_getElem h]
theorem PB (v w:ai):(nR (.int .i64 v.slot) (.int .i64 w.slot)&&(nR (.int .u64 v.ao) (.int .u64 w.ao)&&(nR (.int .i64 v.kind) (.int .i64 w.kind)&&(nR (.int .i64 v.chain) (.int .i64 w.chain)&&(nR (.int .u64 v.aq) (.int .u64 w.aq)&&(nR (.int .i64 v.node) (.int .i64 w.node)&&true))))))=eqB v w:=by
 obtain⟨a,b,c,d,e,f⟩:=v;obtain⟨a',b',c',d',e',f'⟩:=w;rw[Bool.eq_iff_iff,Kg];simp[nR]
structure b8 where
 kind:Int
 chain:Int
 aq:Int
 node:Int
@[reducible] def Kh (c:b8):TV:=aaM c.kind c.chain c.aq c.node
def b8.check (c:b8):Int:=yU c.kind c.chain c.aq c.node
def ai.of (n b:Int) (c:b8):ai:=⟨n,b,c.kind,c.chain,c.aq,c.node⟩
def fA (p:Int) (es:List (Int×ai)) (b n:Int) (c:b8):Int×List (Int×ai)×Int:=
 if bP b=false∨n<0∨n≥512 then(p,es,1)else if c.check≠0 then(p,es,c.check)else if b<p then(p,es,10)else(b,mG es n (.of n b c),0)
theorem L3 (p:Int) (es:List (Int×ai)) (b n:Int) (c:b8):VC E0 85 2 [.ptr 0 0,.s (.int .u64 b),.s (.int .i64 n),Kh c] [(0,yQ p 1),(1,tB es)]
 (RR (.s (.int .i64 (fA p es b n c).2.2)) 2 [(0,yQ (fA p es b n c).1 1),(1,tB (fA p es b n c).2.1)]):=by
 refine en L0 Tryz.f85 ?_;refine⟨[],[],_,_,_,_,FB b,t3,?_⟩;rintro r o' c' ⟨rfl,rfl,rfl⟩;have bj:=True.intro;clear bj;cases hb:bP b
 ·have e:fA p es b n c=(p,es,1):=by unfold fA;grind
  rw[e];refine wh ?_;exact⟨[],[some 0,some 1],_,_,_,t3,rfl,rfl,rfl⟩
 ·refine wh ?_;refine sp ?_ ?_<;>intro h1
  ·have e:fA p es b n c=(p,es,1):=by unfold fA;grind
   rw[e];refine wh ?_;exact⟨[],[some 0,some 1],_,_,_,t3,rfl,rfl,rfl⟩
  ·refine wh ?_;refine sp ?_ ?_<;>intro h2
   ·have e:fA p es b n c=(p,es,1):=by unfold fA;grind
    rw[e];refine wh ?_;exact⟨[],[some 0,some 1],_,_,_,t3,rfl,rfl,rfl⟩
   ·refine wh ?_;refine⟨[],[],_,_,_,_,lk c.kind c.chain c.aq c.node,t3,cw ?_⟩;refine sp ?_ ?_<;>intro hk
    ·have hk:c.check≠0:=hk;have e:fA p es b n c=(p,es,c.check):=by unfold fA;grind
     rw[e];refine wh ?_;exact⟨[],[some 0,some 1],_,_,_,t3,rfl,rfl,rfl⟩
    ·have o8:c.check=0:=Classical.not_not.1 hk;refine wh ?_;refine sp ?_ ?_<;>intro h3
     ·have e:fA p es b n c=(p,es,10):=by unfold fA;grind
      rw[e];refine wh ?_;exact⟨[],[some 0,some 1],_,_,_,t3,rfl,rfl,rfl⟩
     ·have e:fA p es b n c=(b,mG es n (.of n b c),0):=by unfold fA;grind
      rw[e];refine wh ?_;refine⟨[],[some 0,some 1],_,_,_,tx ?_,rfl,rfl,rfl⟩;exact Lz.of (tC n (.of n b c) es)
structure Vc (p:Int) (es:List (Int×ai)):Prop where
 mv:MV es
 pI:∀e∈es,0≤e.1∧e.1<512
 bal:∀e∈es,e.2.ao≤p
theorem Vc.ok {p:Int} {es:List (Int×ai)} (h:Vc p es) (hl:es.length<1000):k8 (es.map (·.1)):=by
 refine⟨by simp;omega,fun x hx=>?_,h.mv.nd⟩;obtain⟨e,he,rfl⟩:=List.mem_map.1 hx;have:=h.pI e he;have h1:IntKind.i64.min= -9223372036854775808:=rfl;have h2:IntKind.i64.max=9223372036854775807:=rfl;omega
theorem Ts {p b n:Int} {c:b8} {es:List (Int×ai)} (h:Vc p es):Vc (fA p es b n c).1 (fA p es b n c).2.1∧p≤(fA p es b n c).1∧(fA p es b n c).2.1.length≤es.length+1:=by
 unfold fA;split
 ·exact⟨h,Int.le_refl _,by simp⟩
 ·split
  ·exact⟨h,Int.le_refl _,by simp⟩
  ·split
   ·exact⟨h,Int.le_refl _,by simp⟩
   ·rename_i h1 _ h3;refine⟨⟨h.mv.put (.of n b c),fun e he=>?_,fun e he=>?_⟩,by simp;omega,?_⟩
    ·rw[iG h.mv.nd]at he;rcases he with rfl |⟨_,he⟩
     ·simp at h1 ⊢;omega
     ·exact h.pI e he
    ·rw[iG h.mv.nd]at he;rcases he with rfl |⟨_,he⟩
     ·simp[ai.of]
     ·have:=h.bal e he;simp;omega
    ·have:=congrArg List.length (qs (n:=n) (v:=.of n b c) (es:=es));simp only[List.length_map]at this;simp only
     rw[this];split<;>simp
def vR (n:Int):Prop:=IntKind.i64.min≤n∧n≤IntKind.i64.max
def fX (es:List (Int×ai)) (v:ai):List (Int×ai):=match fK es v.slot with
 |none=>mG es v.slot v
 |some w=>if v.ao>w.ao then mG es v.slot v else es
def fY (l:List ai):List (Int×ai):=l.foldl fX []
def PC (out:List ai) (v:ai):List ai:=match tF out v.slot with
 |none=>put out v
 |some w=>if v.ao>w.ao then put out v else out
theorem yV (l:List ai) (v:ai):fY (l++[v])=fX (fY l) v:=by simp[fY]
structure KB (es:List (Int×ai)):Prop where
 mv:MV es
 pI:∀e∈es,vR e.1
theorem KB.ok {es:List (Int×ai)} (h:KB es) (hl:es.length<100000):k8 (es.map (·.1)):=by
 refine⟨by simp;omega,fun x hx=>?_,h.mv.nd⟩;obtain⟨e,he,rfl⟩:=List.mem_map.1 hx;exact h.pI e he
theorem KB.put {es:List (Int×ai)} (h:KB es) {v:ai} (hv:vR v.slot):KB (mG es v.slot v):=
 ⟨h.mv.put v,fun e he=>by
  rw[iG h.mv.nd]at he;rcases he with rfl |⟨_,he⟩
  ·exact hv
  ·exact h.pI e he⟩
theorem FG (es:List (Int×ai)) (n:Int) (v:ai):(mG es n v).length≤es.length+1:=by
 have:=congrArg List.length (qs (n:=n) (v:=v) (es:=es));simp only[List.length_map]at this;rw[this];split<;>simp
theorem Bw {es:List (Int×ai)} (h:KB es) {v:ai} (hv:vR v.slot):KB (fX es v)∧(fX es v).length≤es.length+1∧oh (fX es v)=PC (oh es) v:=by
 unfold fX PC;rw[←PA h.mv];cases fK es v.slot with
 |none=>exact⟨h.put hv,FG ..,FE h.mv v⟩
 |some w=>
  by_cases hb:v.ao>w.ao
  ·simp only[hb,if_true];exact⟨h.put hv,FG ..,FE h.mv v⟩
  ·simp only[hb,if_false];exact⟨h,Nat.le_succ _,trivial⟩
theorem lp {l:List ai} (hl:∀v∈l,vR v.slot):KB (fY l)∧(fY l).length≤l.length:=by
 have:∀(l:List ai) (es:List (Int×ai)),KB es→(∀v∈l,vR v.slot)→KB (l.foldl fX es)∧(l.foldl fX es).length≤es.length+l.length:=by
  intro l
  induction l with
  |nil=>intro es h _;exact⟨h,Nat.le_refl _⟩
  |cons v l ih=>
   intro es h hv;obtain⟨h1,h2,_⟩:=Bw h (hv v List.mem_cons_self);obtain⟨h3,h4⟩:=ih _ h1 fun w hw=>hv w (List.mem_cons_of_mem _ hw);exact⟨h3,by simp only[List.foldl_cons,List.length_cons];omega⟩
 have:=this l [] ⟨⟨by simp,by simp⟩,by simp⟩ hl;unfold fY;simpa using this
def FH (l:List ai):List TV:=[.sl 6 (l.map eL) false]
theorem L4 {l:List (List ai)} {i:Nat} (h:i<l.length):(l.take (i+1)).flatten=(l.take i).flatten++l[i]:=by
 rw[List.take_succ_eq_append_getElem h,List.flatten_append,List.flatten_cons,List.flatten_nil,List.append_nil]
theorem u0 {l:List (List ai)} (h8:l.length≤8) (YR:∀x∈l,x.length≤600) {i:Nat}:(l.take i).flatten.length≤4800:=by
 have:∀m:List (List ai),(∀x∈m,x.length≤600)→m.flatten.length≤600*m.length:=by
  intro m
  induction m with
  |nil=>simp
  |cons x m ih=>
   intro h;have h1:=h x List.mem_cons_self;have h2:=ih fun y hy=>h y (List.mem_cons_of_mem _ hy);simp only[List.flatten_cons,List.length_append,List.length_cons];omega
 have h1:=this (l.take i) fun x hx=>YR x (List.mem_of_mem_take hx);have h2:(l.take i).length≤8:=by rw[List.length_take];omega
 omega
theorem W6 {l:List (List ai)} (hr:∀x∈l,∀v∈x,vR v.slot) {i j:Nat} (h:i<l.length):∀v∈(l.take i).flatten++l[i].take j,vR v.slot:=by
 intro v hv;rcases List.mem_append.1 hv with hv|hv
 ·obtain⟨x,hx,hv⟩:=List.mem_flatten.1 hv;exact hr x (List.mem_of_mem_take hx) v hv
 ·exact hr _ (List.getElem_mem h) v (List.mem_of_mem_take hv)
def ee (l:List (List ai)):List ai:=oh (fY l.flatten)
theorem IB {es:List (Int×ai)} (h:MV es) (h0:0<es.length):rising es (Small.wy (es.map (·.1))) (bY (es.map (·.1)))=oh es:=by
 rw[yT h,List.filter_eq_self];intro v hv;have:=(lh h).1 hv;exact decide_eq_true ((Small.uS (by simpa using h0)).2 _ (List.mem_map.2 ⟨_,this,rfl⟩))
theorem IC (es:List (Int×ai)) (gl:k8 (es.map (·.1))) (h0:0<es.length):VC E0 125 2 [.cW 238 [] [.ptr 1 0]] [(0,.map (dV .i64) (es.map iF)),(1,.cells [.mp 0])] (fun r o c=>r= .bg 2 (es.map (·.1)).length∧c=3∧
      o=[(2,.eE (es.map (·.1))),(0,.map (dV .i64) (es.map iF)),(1,.cells [.mp 0])]):=
 VC.collect (E:=E0) (g:=125) (ky:=[238,175]) (k:=238) (by kernel_rfl) (fun _ _=>rfl) rfl (y:=.map (dV .i64) (es.map iF)) (ks:=es.map (·.1)) (by simp[Fo,Function.comp_def,iF]) gl (by intro e;simp at e;subst e;simp at h0)
theorem Tt (ks:List Int) (h0:0<ks.length) (hl:ks.length≤1000000):VC E0 213 1 [.bg 0 ks.length] [(0,.eE ks)] (fun r o c=>r= .s (.int .i64 (Small.wy ks))∧c=1∧o=[(0,.eE ks)]):=
 VC.Pq (E:=E0) (g:=213) (val:=uU) (pre:=[]) (by kernel_rfl) (fun _ _=>rfl) (by simp) h0 (v:=.int .i64 (Small.wy ks)) (by
  cases ks with
  |nil=>simp at h0
  |cons a l=>simp only[uU,bI];rw[Nat.ble_eq_true_of_le hl]) rfl
theorem Tu (l:List (List ai)) (h8:l.length≤8) (YR:∀x∈l,x.length≤600) (hr:∀x∈l,∀v∈x,vR v.slot):VC E0 176 0 [.sl 1 (l.map FH) false] [] (RR (.sl 6 ((ee l).map eL) false) 0 []):=by
 refine en L0 Tryz.f176 ?_;refine⟨fun k f o c=>∃i:Nat,i≤l.length∧k=l.length - i∧c=1∧f=[(3,.mp 0),(11,.sl 1 (l.map FH) false),(12,.s (.int .i64 l.length)),(13,.s (.int .i64 i))]∧o=[(0,tB (fY (l.take i).flatten))],⟨l.length,?_⟩,?_⟩
 ·refine⟨[],[some 0],?_⟩
  iterate 3 constructor
  refine⟨⟨?_,?_,?_⟩,⟨0,Nat.zero_le _,rfl,rfl,rfl,rfl⟩⟩
  all_goals(repeat' first|exact LF|constructor)
  all_goals exact Lz.of (by simp[goInt])
 ·rintro k f1 o1 c1 ⟨i,hi,rfl,rfl,rfl,rfl⟩;refine wh ?_;refine sp ?_ ?_<;>intro h
  ·have h:i<l.length:=by simpa using h
   have agy:=YR _ (List.getElem_mem h);refine wh ?_;refine jg h ?_;refine wh ?_;refine⟨fun k f o c=>∃j:Nat,j≤l[i].length∧k=l[i].length - j∧c=1∧f=[(3,.mp 0),(11,.sl 1 (l.map FH) false),(12,.s (.int .i64 l.length)),(13,.s (.int .i64 i)),(17,.sl 6 (l[i].map eL) false),(18,.s (.int .i64 l[i].length)),(19,.s (.int .i64 j))]∧o=[(0,tB (fY ((l.take i).flatten++l[i].take j)))],⟨l[i].length,?_⟩,?_⟩
   ·refine⟨[],[some 0],?_⟩
    iterate 3 constructor
    refine⟨⟨?_,?_,?_⟩,⟨0,Nat.zero_le _,rfl,rfl,rfl,rfl⟩⟩
    all_goals(repeat' first|exact LF|constructor)
    all_goals first|exact Lz.of (by simp[goInt])|exact Lz.of (by simp)
   ·rintro k f1 o1 c1 ⟨j,hj,rfl,rfl,rfl,rfl⟩;refine wh ?_;refine sp ?_ ?_<;>intro hj
    ·have hj:j<l[i].length:=by simpa using hj
     obtain⟨hkb,hlen⟩:=lp (W6 hr (j:=j) h);have vn:fY ((l.take i).flatten++l[i].take (j+1))=fX (fY ((l.take i).flatten++l[i].take j)) l[i][j]:=by
      rw[List.take_succ_eq_append_getElem hj,←List.append_assoc,yV]
     generalize pj:fY ((l.take i).flatten++l[i].take j)=es at*
     refine wh ?_;refine jg hj ?_;refine wh ?_;have oz:=Bv l[i][j].slot es;cases hv:fK es l[i][j].slot with
     |none=>
      rw[hv]at oz;refine⟨_,oz,?_⟩;refine wh ?_;refine⟨l[i].length - (j+1),?_,om⟩;refine⟨[],[some 0],?_⟩
      iterate 3 constructor
      refine⟨⟨?_,?_,?_⟩,⟨j+1,hj,rfl,rfl,rfl,rfl⟩⟩
      all_goals(repeat' first|exact LF|constructor)
      refine Lz.of ?_;rw[vn];unfold fX;rw[hv];exact tC _ _ _
     |some w=>
      rw[hv]at oz;refine⟨_,oz,?_⟩;refine wh ?_;refine sp ?_ ?_<;>intro hb
      ·refine wh ?_;refine⟨l[i].length - (j+1),?_,om⟩;refine⟨[],[some 0],?_⟩
       iterate 3 constructor
       refine⟨⟨?_,?_,?_⟩,⟨j+1,hj,rfl,rfl,rfl,rfl⟩⟩
       all_goals(repeat' first|exact LF|constructor)
       refine Lz.of ?_;rw[vn];unfold fX;rw[hv];simp only;rw[if_pos hb];exact tC _ _ _
      ·refine wh ?_;refine⟨l[i].length - (j+1),?_,om⟩;refine⟨[],[some 0],?_⟩
       iterate 3 constructor
       refine⟨⟨?_,?_,?_⟩,⟨j+1,hj,rfl,rfl,rfl,rfl⟩⟩
       all_goals(repeat' first|exact LF|constructor)
       refine Lz.of ?_;rw[vn];unfold fX;rw[hv];simp only;rw[if_neg hb]
    ·have PD:j=l[i].length:=by have:¬j<l[i].length:=by simpa using hj
                               omega
     subst PD;refine wh ?_;refine⟨l.length - (i+1),?_,om⟩;refine⟨[],[some 0],?_⟩
     iterate 3 constructor
     refine⟨⟨?_,?_,?_⟩,⟨i+1,h,rfl,rfl,rfl,rfl⟩⟩
     all_goals(repeat' first|exact LF|constructor)
     refine Lz.of ?_;rw[L4 h,List.take_length]
  ·have h':i=l.length:=by have:¬i<l.length:=by simpa using h
                          omega
   subst h';have hb:fY (l.take l.length).flatten=fY l.flatten:=by rw[List.take_length]
   rw[hb];have xn:l.flatten.length≤4800:=by have:=u0 h8 YR (i:=l.length);rwa [List.take_length]at this
   obtain⟨hkb,hlen⟩:=lp (l:=l.flatten) (fun v hv=>by obtain⟨x,hx,hv⟩:=List.mem_flatten.1 hv;exact hr x hx v hv);have hbv:ee l=oh (fY l.flatten):=rfl;generalize pj:fY l.flatten=es at*
   refine wh ?_;refine sp ?_ ?_<;>intro h0
   ·have h0:es=[]:=by simpa using h0
    subst h0;rw[hbv];refine wh ?_;refine⟨[],[],_,_,_,tx ?_,rfl,rfl,rfl⟩;exact Lz.of (by simp[oh,bY])
   ·have h0:0<es.length:=by
     have:es≠[]:=by simpa using h0
     exact List.length_pos_iff.2 this
    refine wh ?_;refine⟨[],[some 0],_,_,_,_,Kf (es.map iF),t3,cw ?_⟩;refine⟨[],[some 0,some 2],_,_,_,_,IC es (hkb.ok om) h0,t3,cw ?_⟩;refine⟨[],[some 5],_,_,_,_,Tt (es.map (·.1)) (by simpa using h0) (by simp;omega),t3,cw ?_⟩;refine⟨[],[some 0],_,_,_,_,Bu es (Small.wy (es.map (·.1))) (hkb.ok om) om,t3,cw ?_⟩;rw[IB hkb.mv h0,hbv];exact⟨[8],[],_,_,_,t3,rfl,rfl,rfl⟩
end Go.M
