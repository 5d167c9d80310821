/-
  Part 15 of the library that the proof leans on.
-/
import Derived.Test.YtpkdpgcpmeibpaaGreatDoorL12
import Derived.Test.YtpkdpgcpmeibpaaGreatDoorL13
import Derived.Test.YtpkdpgcpmeibpaaGreatDoorL14
namespace Go.M
open Go Go.Proofs
def Wx:List Value:=[
 .string ⟨#[]⟩,.int .i64 0,.int .i64 0,.int .i64 0,.int .i64 0,.int .i64 0,.int .i64 0,
 .string ⟨#[112,114,101,112,97,114,101]⟩,.int .i64 4,.int .i64 32,.int .i64 0,.int .i64 0,.int .i64 0,.int .i64 0,
 .string ⟨#[112,114,111,109,105,115,101]⟩,.int .i64 4,.int .i64 32,.int .i64 4096,.int .i64 0,.int .i64 0,.int .i64 0,
 .string ⟨#[97,99,99,101,112,116]⟩,.int .i64 4,.int .i64 32,.int .i64 1024,.int .i64 0,.int .i64 0,.int .i64 0,
 .string ⟨#[97,99,99,101,112,116,101,100]⟩,.int .i64 4,.int .i64 32,.int .i64 0,.int .i64 0,.int .i64 0,.int .i64 0,
 .string ⟨#[99,104,111,115,101,110]⟩,.int .i64 32,.int .i64 1024,.int .i64 0,.int .i64 0,.int .i64 0,.int .i64 0,
 .string ⟨#[98,101,97,116]⟩,.int .i64 4,.int .i64 32,.int .i64 0,.int .i64 0,.int .i64 0,.int .i64 0,
 .string ⟨#[119,97,110,116]⟩,.int .i64 32,.int .i64 0,.int .i64 0,.int .i64 0,.int .i64 0,.int .i64 0,
 .string ⟨#[114,101,102,117,115,101]⟩,.int .i64 4,.int .i64 0,.int .i64 0,.int .i64 0,.int .i64 0,.int .i64 0,
 .string ⟨#[114,101,112,111,114,116]⟩,.int .i64 1024,.int .i64 0,.int .i64 0,.int .i64 0,.int .i64 0,.int .i64 0,
 .string ⟨#[108,111,99,97,116,101]⟩,.int .i64 1,.int .i64 0,.int .i64 0,.int .i64 0,.int .i64 0,.int .i64 0,
 .string ⟨#[99,111,110,102,105,103]⟩,.int .i64 2048,.int .i64 0,.int .i64 0,.int .i64 0,.int .i64 0,.int .i64 0,
 .string ⟨#[112,117,115,104]⟩,.int .i64 1,.int .i64 2,.int .i64 8,.int .i64 16,.int .i64 8192,.int .i64 0,
 .string ⟨#[97,99,107]⟩,.int .i64 1,.int .i64 2,.int .i64 8,.int .i64 16,.int .i64 64,.int .i64 32,
 .string ⟨#[112,97,114,116]⟩,.int .i64 1,.int .i64 2,.int .i64 8,.int .i64 32,.int .i64 64,.int .i64 16384,
 .string ⟨#[113,117,101,114,121]⟩,.int .i64 1,.int .i64 2,.int .i64 64,.int .i64 256,.int .i64 0,.int .i64 0,
 .string ⟨#[116,111,108,100]⟩,.int .i64 1,.int .i64 2,.int .i64 64,.int .i64 256,.int .i64 512,.int .i64 0,
 .string ⟨#[119,114,105,116,101]⟩,.int .i64 1,.int .i64 2,.int .i64 8192,.int .i64 0,.int .i64 0,.int .i64 0,
 .string ⟨#[119,114,111,116,101]⟩,.int .i64 64,.int .i64 128,.int .i64 512,.int .i64 0,.int .i64 0,.int .i64 0,
 .string ⟨#[114,101,97,100]⟩,.int .i64 1,.int .i64 2,.int .i64 64,.int .i64 256,.int .i64 0,.int .i64 0,
 .string ⟨#[103,111,116]⟩,.int .i64 64,.int .i64 256,.int .i64 512,.int .i64 16384,.int .i64 0,.int .i64 0]
def Gn:qx:=[(0,Wx)]
noncomputable def E0:=Gl Tryz.prog Gn (Px Gn [] (Pt [4] [(106,[248,146,185])] [(135,[248,185])] [(223,vP),(100,mY)]))
noncomputable def T0:=tES E0 [34,98] [54]
set_option maxRecDepth 100000
theorem Pu:[34,98].all (F5 E0)=true:=by kernel_rfl
theorem Wy (g:FuncId) (h:jx g [54]=true):yV E0 g:=by
 have:=lV h;simp only[List.mem_cons,List.not_mem_nil,or_false]at this;subst this;exact Py (show E0.func 54=some Tryz.f54 by kernel_rfl) (fun _ _=>rfl) rfl (by kernel_rfl)
theorem L0:cD T0 E0:=O4 (fun t z h=>by
 simp only[E0,Gl,eL,Option.bind_eq_some_iff,aj,Option.some.injEq]at h;obtain⟨i,h1,z',h2,h3,rfl⟩:=h;exact h3) Pu Wy
theorem VC.Wz {E:Env} {g:FuncId} {c0:Nat} {o0:Ob} (hf:(E.func g).isSome=true) (ho:∀b h,E.rF b g [] h=some (.bool true,h)):VC E g c0 [] o0 (fun r o c=>r= .s (.bool true)∧o=o0∧c=c0):=
 VC.rF hf (fun b a h ha=>by
  have:a=[]:=by simpa using ha
  subst this;exact ho b h) rfl
theorem Kx (es:List (Value×TV)):VC E0 222 1 [.mp 0] [(0,.map (eE .i64) es)] (fun r o c=>r= .dc 248 [] [.ptr 1 0]∧c=2∧o=[(1,.cells [.mp 0]),(0,.map (eE .i64) es)]):=by
 refine en L0 Tryz.f222 ?_;exact⟨[],[some 0,some 1],_,_,_,t3,rfl,rfl,rfl⟩
set_option maxRecDepth 100000
set_option maxHeartbeats 2000000
@[reducible] def aR (n:Int):List TV:=[.s (.int .i64 n)]
def qw (n:Int):Bool:=decide (n≥1∧n≤63)
theorem vR (n:Int):VC E0 138 0 [.s (.int .i64 n)] [] (RR (.s (.bool (qw n))) 0 []):=by
 refine en L0 Tryz.f138 ?_
 repeat'(first|((first|(refine⟨fun h=>?_,fun h=>?_⟩)|(refine cU (fun h=>?_) (fun h=>?_))|(refine cS (fun h=>?_) (fun h=>?_)))<;>(conv=>whnf)))
 all_goals(refine⟨[],[],[],_,_,⟨?_,.nil,rfl⟩,rfl,rfl,rfl⟩)
 all_goals(refine .s (Lz.of (ah ?_));simp[qw, *];try omega)
theorem DV (s:Nat) (L:List Int) (hs:rM s) (hL:∀x∈L,m5 x) (hl:L.length<1000000):VC E0 100 0 [.s (.int .u64 s),.sl 1 (L.map aR) false] [] (RR (.s (.int .u64 (bI s L))) 0 []):=by
 refine VC.SM L0 (show E0.func 100=some Tryz.f100 by kernel_rfl) (fun base ρ F h S cq _ H=>(SP (pre:=[.s (.int .u64 s)]) H:Gf mY cq h=none)) rfl rfl [] ?_;refine wh ?_;refine⟨fun k f o c=>∃j:Nat,j≤L.length∧k=L.length - j∧c=0∧f=[(0,.s (.int .u64 (bI s (L.take j)))),(9,.sl 1 (L.map aR) false),(10,.s (.int .i64 L.length)),(11,.s (.int .i64 j))]∧o=[],⟨L.length,?_⟩,?_⟩
 ·refine⟨[],[],?_⟩
  iterate 3 constructor
  refine⟨⟨?_,?_,?_⟩,⟨0,Nat.zero_le _,rfl,rfl,rfl,rfl⟩⟩
  all_goals(repeat' first|exact LF|constructor)
  ·refine Lz.int ?_;have:=DU s hs.1;have h2:=hs.2;rw[show s / 2*2=s by omega]at this;exact this
  all_goals exact Lz.of (by simp[goInt])
 ·rintro k f1 o1 c1 ⟨j,hj,rfl,rfl,rfl,rfl⟩;refine wh ?_;refine sp ?_ ?_<;>intro h
  ·have h:j<L.length:=by simpa using h
   have hw:=jl hs (fun x hx=>hL x (List.mem_of_mem_take hx)) (L:=L.take j);have wo:bI s (L.take (j+1))=bI s (L.take j)|||2 ^ L[j].toNat:=by rw[List.take_succ_eq_append_getElem h,zF]
   have hx:=zE (hL _ (List.getElem_mem h));generalize Wu:bI s (L.take j)=w at*
   refine wh ?_;refine eT h ?_;generalize LN:L[j]=x at*
   rcases hx with rfl |rfl |rfl |rfl |rfl
   all_goals
    refine wh ?_;refine⟨[],[],_,_,_,_,vR _,t3,cw ?_⟩;refine⟨L.length - (j+1),?_,om⟩;refine⟨[],[],?_⟩
    iterate 3 constructor
    refine⟨⟨?_,?_,?_⟩,⟨j+1,h,rfl,rfl,rfl,rfl⟩⟩
    all_goals(repeat' first|exact LF|constructor)
    refine Lz.int ?_;rw[wo];exact UL w hw.1 _ (by decide)
  ·have h':j=L.length:=by have:¬j<L.length:=by simpa using h
                          omega
   subst h';refine wh ?_;rw[List.take_length];exact⟨[],[],_,_,_,t3,rfl,rfl,rfl⟩
theorem SW (s:Nat) (hs:s<64):VC E0 188 0 [.s (.int .u64 s)] [] (RR (.s (.int .i64 (vQ s))) 0 []):=by
 refine en L0 Tryz.f188 ?_;refine⟨[],[],?_⟩
 iterate 3 constructor
 refine⟨⟨?_,?_,?_⟩,rfl,rfl,rfl⟩
 all_goals(repeat' first|exact LF|constructor)
 refine Lz.int ?_;revert s;decide+kernel
theorem qz (s:Nat) (hs:s<64):VC E0 139 0 [.s (.int .u64 s)] [] (RR (.s (.int .i64 (vQ (s / 2*2)))) 0 []):=by
 refine en L0 Tryz.f139 ?_;refine⟨[],[],[],_,_,_,SW (s / 2*2) om,⟨.cons (.s (Lz.int (DU s hs))) .nil,.nil,by rfl⟩,?_⟩;rintro r o' c' ⟨rfl,rfl,rfl⟩;refine wh ?_;exact⟨[],[],_,_,_,t3,rfl,rfl,rfl⟩
theorem og (n:Int) (h:1≤n) (h2:n≤1000):VC E0 140 0 [.s (.int .i64 n)] [] (RR (.s (.int .i64 (n.toNat / 2+1:Nat))) 0 []):=by
 refine en L0 Tryz.f140 ?_;refine sp ?_ ?_<;>intro h0
 ·omega
 ·refine wh ?_;refine⟨[],[],?_⟩
  iterate 3 constructor
  refine⟨⟨?_,?_,?_⟩,rfl,rfl,rfl⟩
  all_goals(repeat' first|exact LF|constructor)
  refine Lz.int ?_;rw[Int.tdiv_eq_ediv_of_nonneg om,IntWalk.i64_in (n / 2) om,IntWalk.i64_in (n / 2+1) om];omega
theorem vS (s:Nat) (n:Int) (hs:s<64) (hn:m5 n):VC E0 101 0 [.s (.int .u64 s),.s (.int .i64 n)] [] (RR (.s (.bool (iC s n))) 0 []):=by
 rcases zE hn with rfl |rfl |rfl |rfl |rfl
 ·refine en L0 Tryz.f101 ?_
  repeat((first|(refine⟨fun h_=>?_,fun h_=>?_⟩)|(refine cU (fun h_=>?_) (fun h_=>?_))|(refine cS (fun h_=>?_) (fun h_=>?_)))<;>first|(exfalso;revert h_;decide;done)|(exact absurd rfl h_)|(have bm:=True.intro;clear bm;(conv=>whnf)))
  refine⟨[],[],[],_,_,_,qz (s&&& (2 ^ 2 - 1)) (Nat.lt_of_le_of_lt (Nat.and_le_left (n:=s)) hs),⟨.cons (.s (Lz.int (uq s hs 2 (by decide)))) .nil,.nil,by rfl⟩,?_⟩;rintro r o' c' ⟨rfl,rfl,rfl⟩;refine wh ?_;refine⟨[],[],_,_,_,_,og 1 (by decide) (by decide),t3,cw ?_⟩;refine sp ?_ ?_<;>intro hq
  ·have hq:(vQ ((s&&& (2 ^ 2 - 1)) / 2*2):Int)≥(((1:Int).toNat / 2+1:Nat):Int):=hq;refine wh ?_;refine⟨[],[],_,_,_,tx ?_,rfl,rfl,rfl⟩;exact Lz.of (ah (Eq.symm (decide_eq_true (Int.ofNat_le.1 hq))))
  ·have hq:¬(vQ ((s&&& (2 ^ 2 - 1)) / 2*2):Int)≥(((1:Int).toNat / 2+1:Nat):Int):=hq;refine wh ?_;refine⟨[],[],_,_,_,tx ?_,rfl,rfl,rfl⟩;exact Lz.of (ah (Eq.symm (decide_eq_false fun h=>hq (Int.ofNat_le.2 h))))
 ·refine en L0 Tryz.f101 ?_
  repeat((first|(refine⟨fun h_=>?_,fun h_=>?_⟩)|(refine cU (fun h_=>?_) (fun h_=>?_))|(refine cS (fun h_=>?_) (fun h_=>?_)))<;>first|(exfalso;revert h_;decide;done)|(exact absurd rfl h_)|(have bm:=True.intro;clear bm;(conv=>whnf)))
  refine⟨[],[],[],_,_,_,qz (s&&& (2 ^ 3 - 1)) (Nat.lt_of_le_of_lt (Nat.and_le_left (n:=s)) hs),⟨.cons (.s (Lz.int (uq s hs 3 (by decide)))) .nil,.nil,by rfl⟩,?_⟩;rintro r o' c' ⟨rfl,rfl,rfl⟩;refine wh ?_;refine⟨[],[],_,_,_,_,og 2 (by decide) (by decide),t3,cw ?_⟩;refine sp ?_ ?_<;>intro hq
  ·have hq:(vQ ((s&&& (2 ^ 3 - 1)) / 2*2):Int)≥(((2:Int).toNat / 2+1:Nat):Int):=hq;refine wh ?_;refine⟨[],[],_,_,_,tx ?_,rfl,rfl,rfl⟩;exact Lz.of (ah (Eq.symm (decide_eq_true (Int.ofNat_le.1 hq))))
  ·have hq:¬(vQ ((s&&& (2 ^ 3 - 1)) / 2*2):Int)≥(((2:Int).toNat / 2+1:Nat):Int):=hq;refine wh ?_;refine⟨[],[],_,_,_,tx ?_,rfl,rfl,rfl⟩;exact Lz.of (ah (Eq.symm (decide_eq_false fun h=>hq (Int.ofNat_le.2 h))))
 ·refine en L0 Tryz.f101 ?_
  repeat((first|(refine⟨fun h_=>?_,fun h_=>?_⟩)|(refine cU (fun h_=>?_) (fun h_=>?_))|(refine cS (fun h_=>?_) (fun h_=>?_)))<;>first|(exfalso;revert h_;decide;done)|(exact absurd rfl h_)|(have bm:=True.intro;clear bm;(conv=>whnf)))
  refine⟨[],[],[],_,_,_,qz (s&&& (2 ^ 4 - 1)) (Nat.lt_of_le_of_lt (Nat.and_le_left (n:=s)) hs),⟨.cons (.s (Lz.int (uq s hs 4 (by decide)))) .nil,.nil,by rfl⟩,?_⟩;rintro r o' c' ⟨rfl,rfl,rfl⟩;refine wh ?_;refine⟨[],[],_,_,_,_,og 3 (by decide) (by decide),t3,cw ?_⟩;refine sp ?_ ?_<;>intro hq
  ·have hq:(vQ ((s&&& (2 ^ 4 - 1)) / 2*2):Int)≥(((3:Int).toNat / 2+1:Nat):Int):=hq;refine wh ?_;refine⟨[],[],_,_,_,tx ?_,rfl,rfl,rfl⟩;exact Lz.of (ah (Eq.symm (decide_eq_true (Int.ofNat_le.1 hq))))
  ·have hq:¬(vQ ((s&&& (2 ^ 4 - 1)) / 2*2):Int)≥(((3:Int).toNat / 2+1:Nat):Int):=hq;refine wh ?_;refine⟨[],[],_,_,_,tx ?_,rfl,rfl,rfl⟩;exact Lz.of (ah (Eq.symm (decide_eq_false fun h=>hq (Int.ofNat_le.2 h))))
 ·refine en L0 Tryz.f101 ?_
  repeat((first|(refine⟨fun h_=>?_,fun h_=>?_⟩)|(refine cU (fun h_=>?_) (fun h_=>?_))|(refine cS (fun h_=>?_) (fun h_=>?_)))<;>first|(exfalso;revert h_;decide;done)|(exact absurd rfl h_)|(have bm:=True.intro;clear bm;(conv=>whnf)))
  refine⟨[],[],[],_,_,_,qz (s&&& (2 ^ 5 - 1)) (Nat.lt_of_le_of_lt (Nat.and_le_left (n:=s)) hs),⟨.cons (.s (Lz.int (uq s hs 5 (by decide)))) .nil,.nil,by rfl⟩,?_⟩;rintro r o' c' ⟨rfl,rfl,rfl⟩;refine wh ?_;refine⟨[],[],_,_,_,_,og 4 (by decide) (by decide),t3,cw ?_⟩;refine sp ?_ ?_<;>intro hq
  ·have hq:(vQ ((s&&& (2 ^ 5 - 1)) / 2*2):Int)≥(((4:Int).toNat / 2+1:Nat):Int):=hq;refine wh ?_;refine⟨[],[],_,_,_,tx ?_,rfl,rfl,rfl⟩;exact Lz.of (ah (Eq.symm (decide_eq_true (Int.ofNat_le.1 hq))))
  ·have hq:¬(vQ ((s&&& (2 ^ 5 - 1)) / 2*2):Int)≥(((4:Int).toNat / 2+1:Nat):Int):=hq;refine wh ?_;refine⟨[],[],_,_,_,tx ?_,rfl,rfl,rfl⟩;exact Lz.of (ah (Eq.symm (decide_eq_false fun h=>hq (Int.ofNat_le.2 h))))
 ·refine en L0 Tryz.f101 ?_
  repeat((first|(refine⟨fun h_=>?_,fun h_=>?_⟩)|(refine cU (fun h_=>?_) (fun h_=>?_))|(refine cS (fun h_=>?_) (fun h_=>?_)))<;>first|(exfalso;revert h_;decide;done)|(exact absurd rfl h_)|(have bm:=True.intro;clear bm;(conv=>whnf)))
  refine⟨[],[],[],_,_,_,qz (s&&& (2 ^ 6 - 1)) (Nat.lt_of_le_of_lt (Nat.and_le_left (n:=s)) hs),⟨.cons (.s (Lz.int (uq s hs 6 (by decide)))) .nil,.nil,by rfl⟩,?_⟩;rintro r o' c' ⟨rfl,rfl,rfl⟩;refine wh ?_;refine⟨[],[],_,_,_,_,og 5 (by decide) (by decide),t3,cw ?_⟩;refine sp ?_ ?_<;>intro hq
  ·have hq:(vQ ((s&&& (2 ^ 6 - 1)) / 2*2):Int)≥(((5:Int).toNat / 2+1:Nat):Int):=hq;refine wh ?_;refine⟨[],[],_,_,_,tx ?_,rfl,rfl,rfl⟩;exact Lz.of (ah (Eq.symm (decide_eq_true (Int.ofNat_le.1 hq))))
  ·have hq:¬(vQ ((s&&& (2 ^ 6 - 1)) / 2*2):Int)≥(((5:Int).toNat / 2+1:Nat):Int):=hq;refine wh ?_;refine⟨[],[],_,_,_,tx ?_,rfl,rfl,rfl⟩;exact Lz.of (ah (Eq.symm (decide_eq_false fun h=>hq (Int.ofNat_le.2 h))))
structure ak where
 slot:Int
 ai:Int
 kind:Int
 chain:Int
 aq:Int
 node:Int
def eZ (v:ak):List TV:=[.s (.int .i64 v.slot),.s (.int .u64 v.ai),.s (.int .i64 v.kind),.s (.int .i64 v.chain),.s (.int .u64 v.aq),.s (.int .i64 v.node)]
def jm (e:Int×ak):Value×TV:=(.int .i64 e.1,.agg (eZ e.2))
theorem WA:(E0.func 106).isSome=true:=by kernel_rfl
theorem Mc (kd:Nat) (es:List (Int×ak)) (fG:lW (es.map (·.1))):VC E0 106 2 [.dc 248 [] [.ptr 1 0]] [(0,.map kd (es.map jm)),(1,.cells [.mp 0])] (fun r o c=>r= .tk 2∧c=3∧
      o=[(2,.arr 1 true ((cb (es.map (·.1))).map fun n=>[.s (.int .i64 n)])),(0,.map kd (es.map jm)),(1,.cells [.mp 0])]):=by
 have:=VC.sorted (E:=E0) (g:=106) (lp:=[248,146,185]) (k:=248) WA (fun _ _=>rfl) rfl (kd:=kd) (es:=es.map fun e=>(e.1,TV.agg (eZ e.2))) (by rw[List.map_map];exact fG);rw[List.map_map,List.map_map]at this;exact this
def DX (es:List (Int×ak)) (n:Int):ak:=match es.find? (fun e=>e.1==n)with|some e=>e.2|none=>⟨0,0,0,0,0,0⟩
def rising (es:List (Int×ak)) (al:Int) (ks:List Int):List ak:=(ks.filter fun n=>decide (al≤n)).map (DX es)
@[reducible] def adm (al:Int) (n i:Nat):Fr:=[(0,.mp 0),(1,.s (.int .i64 al)),(5,.tk 1),(10,.tk 2),(11,.s (.int .i64 n)),(12,.s (.int .i64 i))]
@[reducible] def adn (kd:Nat) (es:List (Int×ak)) (al:Int) (ks:List Int) (i:Nat):Ob:=[(0,.map kd (es.map jm)),(1,.arr 6 true ((rising es al (ks.take i)).map eZ)),(2,.arr 1 true (ks.map fun n=>[.s (.int .i64 n)]))]
def WB (kd:Nat) (es:List (Int×ak)) (al:Int) (ks:List Int) (k:Nat) (f:Fr) (o:Ob) (c:Nat):Prop:=
 ∃i:Nat,i≤ks.length∧k=ks.length - i∧c=3∧f=adm al ks.length i∧o=adn kd es al ks i
theorem Pz (es:List (Int×ak)) (n:Int) (h:n∈es.map (·.1)):fN (es.map jm) (.int .i64 n)=some (.agg (eZ (DX es n))):=by
 induction es with
 |nil=>simp at h
 |cons e es ih=>
  rw[List.map_cons];unfold fN;by_cases he:e.1=n
  ·have:mR (.int .i64 n) (jm e).1=true:=by simp[mR,jm,he]
   rw[this];simp[jm,DX,he]
  ·have:mR (.int .i64 n) (jm e).1=false:=by simp[mR,jm];exact fun h=>he h.symm
   rw[this];have:=ih (by rw[List.map_cons]at h;rcases List.mem_cons.1 h with h|h;exact absurd h.symm he;exact h);simp only[this];simp[DX,he]
theorem wU (es:List (Int×ak)) (al:Int) (ks:List Int) (i:Nat) (h:i<ks.length):rising es al (ks.take (i+1))=rising es al (ks.take i)++(if al≤ks[i]then [DX es ks[i]]else []):=by
 unfold rising;rw[List.take_succ_eq_append_getElem h,List.filter_append,List.map_append];by_cases hf:al≤ks[i]<;>simp[hf]
theorem Cc (es:List (Int×ak)) (al:Int) (fG:lW (es.map (·.1))) (fT:es.length<1000000):VC E0 182 1 [.mp 0,.s (.int .i64 al)] [(0,.map (eE .i64) (es.map jm))] (fun r o c=>r= .tk 1∧c=2∧o=[(1,.arr 6 true ((rising es al (cb (es.map (·.1)))).map eZ)),(0,.map (eE .i64) (es.map jm))]):=by
 refine en L0 Tryz.f182 ?_;refine⟨[],[some 0],_,_,_,_,Kx (es.map jm),t3,cw ?_⟩;refine⟨[],[some 0,some 2],_,_,_,_,Mc (eE .i64) es fG,t3,cw ?_⟩;have fL:∀x∈cb (es.map (·.1)),x∈es.map (·.1):=fun x hx=>(List.mergeSort_perm _ _).mem_iff.1 hx;have mP:(cb (es.map (·.1))).length≤1099511627776:=by rw[iN];exact fG.1
 have vd:(cb (es.map (·.1))).length<1000000:=by rw[iN];simpa using fT
 generalize xH:cb (es.map (·.1))=ks at*
 refine⟨WB (eE .i64) es al ks,⟨ks.length,?_⟩,?_⟩
 ·refine⟨[],[some 0,none,some 5],_,_,_,tx ?_,⟨0,Nat.zero_le _,rfl,rfl,rfl,rfl⟩⟩;exact Lz.of (by simp[goInt])
 ·rintro k f1 o1 c1 ⟨i,hi,rfl,rfl,rfl,rfl⟩;refine wh ?_;refine sp ?_ ?_<;>intro No
  ·have No:i<ks.length:=by simpa using No
   refine wh ?_;refine⟨⟨om,by simp;omega⟩,[.s (.int .i64 ks[i])],by simp[No],?_⟩;refine wh ?_;refine sp ?_ ?_<;>intro hf
   ·have hf:al≤ks[i]:=hf;refine wh ?_;refine⟨_,Pz es ks[i] (fL _ (List.getElem_mem No)),?_⟩;refine wh ?_;have hle:(rising es al (ks.take i)).length≤ks.length:=by
     unfold rising;rw[List.length_map];exact Nat.le_trans (List.length_filter_le _ _) (by rw[List.length_take];omega)
    refine⟨by simp;omega,?_⟩;refine wh ?_;refine⟨ks.length - (i+1),?_,om⟩;refine⟨[],[some 0,some 4,some 2],?_⟩
    iterate 3 constructor
    refine⟨⟨?_,?_,?_⟩,⟨i+1,No,rfl,rfl,rfl,rfl⟩⟩
    all_goals(repeat' first|exact LF|constructor)
    ·rw[wU _ _ _ _ No,if_pos hf,List.map_append];exact Lz.rfl
   ·have hf:¬al≤ks[i]:=hf;refine wh ?_;refine⟨ks.length - (i+1),?_,om⟩;refine⟨[],[some 0,some 1,some 2],?_⟩
    iterate 3 constructor
    refine⟨⟨?_,?_,?_⟩,⟨i+1,No,rfl,rfl,rfl,rfl⟩⟩
    all_goals(repeat' first|exact LF|constructor)
    ·rw[wU _ _ _ _ No,if_neg hf,List.append_nil];exact Lz.rfl
  ·have No:¬i<ks.length:=by simpa using No
   refine wh ?_;refine⟨[],[some 0,some 1],?_⟩
   iterate 3 constructor
   refine⟨⟨?_,?_,?_⟩,rfl,rfl,rfl⟩
   all_goals(repeat' first|exact LF|constructor)
   rw[List.take_of_length_le om];exact Lz.rfl
@[reducible] def uv (es:List (Int×ak)):TO:=.map (eE .i64) (es.map jm)
@[reducible] def arV (l:List ak):TO:=.arr 6 true (l.map eZ)
@[reducible] def zI (p:Int) (m:Nat):TO:=.cells [.s (.int .u64 p),.mp m]
def lq (es:List (Int×ak)) (al:Int):List ak:=rising es al (cb (es.map (·.1)))
theorem PA (p:Int) (es:List (Int×ak)) (al:Int) (fG:lW (es.map (·.1))) (fT:es.length<1000000):VC E0 130 2 [.ptr 0 0,.s (.int .i64 al)] [(0,zI p 1),(1,uv es)]
 (fun r o c=>r= .tk 2∧c=3∧o=[(2,arV (lq es al)),(0,zI p 1),(1,uv es)]):=by
 refine en L0 Tryz.f130 ?_;refine⟨[],[some 1],_,_,_,_,Cc es al fG fT,t3,cw ?_⟩;exact⟨[],[some 0,some 1,some 3],_,_,_,t3,rfl,rfl,rfl⟩
theorem WC:VC E0 18 0 [] [] (fun r o c=>r= .ptr 0 0∧c=2∧o=[(0,zI 0 1),(1,uv [])]):=by
 refine en L0 Tryz.f18 ?_;exact⟨[],[some 1,some 0],_,_,_,t3,rfl,rfl,rfl⟩
def lZ (n:Int):Bool:=decide (n≥1∧n≤5)
theorem vT (n:Int):VC E0 148 0 [.s (.int .i64 n)] [] (fun r o c=>r= .s (.bool (lZ n))∧c=0∧o=[]):=by
 refine en L0 Tryz.f148 ?_
 repeat'(first|((first|(refine⟨fun h=>?_,fun h=>?_⟩)|(refine cU (fun h=>?_) (fun h=>?_))|(refine cS (fun h=>?_) (fun h=>?_)))<;>(conv=>whnf)))
 all_goals(refine⟨[],[],[],_,_,⟨?_,.nil,rfl⟩,rfl,rfl,rfl⟩)
 all_goals(refine .s (Lz.of (ah ?_));simp[lZ, *];try omega)
def cd (b:Int):Bool:=decide (IntKind.u64.wrap (b.tdiv 8)≥1)&&decide (IntKind.u64.wrap (b.tdiv 8)<1152921504606846976)&&lZ (IntKind.i64.wrap (b.tmod 8))
theorem Gp (b:Int):VC E0 122 0 [.s (.int .u64 b)] [] (fun r o c=>r= .s (.bool (cd b))∧c=0∧o=[]):=by
 refine en L0 Tryz.f122 ?_;refine sp ?_ ?_<;>intro h1
 ·refine wh ?_;refine sp ?_ ?_<;>intro h2
  ·refine wh ?_;refine⟨[],[],_,_,_,_,vT (IntKind.i64.wrap (b.tmod 8)),t3,cw ?_⟩;refine⟨[],[],?_⟩
   iterate 3 constructor
   refine⟨⟨?_,?_,?_⟩,rfl,rfl,rfl⟩
   all_goals(repeat' first|exact LF|constructor)
   refine Lz.of (ah ?_);simp[cd,h1,h2]
  ·refine wh ?_;refine⟨[],[],?_⟩
   iterate 3 constructor
   refine⟨⟨?_,?_,?_⟩,rfl,rfl,rfl⟩
   all_goals(repeat' first|exact LF|constructor)
   refine Lz.of (ah ?_);simp[cd,h1,h2]
 ·refine wh ?_;refine⟨[],[],?_⟩
  iterate 3 constructor
  refine⟨⟨?_,?_,?_⟩,rfl,rfl,rfl⟩
  all_goals(repeat' first|exact LF|constructor)
  refine Lz.of (ah ?_);simp[cd,h1]
def c5 (p b:Int) (es:List (Int×ak)) (al:Int):Int×List ak×Int:=
 if cd b=false∨al<0∨al>512 then(p,[],1)else if b<p then(p,[],10)else(b,lq es al,0)
def aab (es:List (Int×ak)) (q:Int×List ak×Int) (r:TV) (o:Ob) (c:Nat):Prop:=
 r= .dk [.tk 2,.s (.int .i64 q.2.2)]∧c=3∧o=[(2,arV q.2.1),(0,zI q.1 1),(1,uv es)]
theorem SX (p b:Int) (es:List (Int×ak)) (al:Int) (fG:lW (es.map (·.1))) (fT:es.length<1000000):VC E0 94 2 [.ptr 0 0,.s (.int .u64 b),.s (.int .i64 al)] [(0,zI p 1),(1,uv es)]
 (aab es (c5 p b es al)):=by
 refine en L0 Tryz.f94 ?_;refine⟨[],[],_,_,_,_,Gp b,t3,cw ?_⟩;cases hb:cd b with
 |false=>
  rw[show c5 p b es al=(p,[],1) by unfold c5;grind];refine wh ?_;exact⟨[],[some 0,some 1,none],_,_,_,t3,rfl,rfl,rfl⟩
 |true=>
  refine wh ?_;refine sp ?_ ?_<;>intro h1
  ·rw[show c5 p b es al=(p,[],1) by unfold c5;grind];refine wh ?_;exact⟨[],[some 0,some 1,none],_,_,_,t3,rfl,rfl,rfl⟩
  ·refine wh ?_;refine sp ?_ ?_<;>intro h2
   ·rw[show c5 p b es al=(p,[],1) by unfold c5;grind];refine wh ?_;exact⟨[],[some 0,some 1,none],_,_,_,t3,rfl,rfl,rfl⟩
   ·refine wh ?_;refine sp ?_ ?_<;>intro h3
    ·rw[show c5 p b es al=(p,[],10) by unfold c5;grind];refine wh ?_;exact⟨[],[some 0,some 1,none],_,_,_,t3,rfl,rfl,rfl⟩
    ·rw[show c5 p b es al=(b,lq es al,0) by unfold c5;grind];refine wh ?_;refine⟨[],[some 0,some 1],_,_,_,_,PA b es al fG fT,t3,cw ?_⟩;exact⟨[],[some 0,some 1,some 4],_,_,_,t3,rfl,rfl,rfl⟩
def ew:List (Int×ak)→Int→Option ak
 |[],_=>none
 |e::es,n=>if n=e.1 then some e.2 else ew es n
theorem Cd (n:Int):∀es:List (Int×ak),fN (es.map jm) (.int .i64 n)=(ew es n).map fun w=>.agg (eZ w)
 |[]=>rfl
 |e::es=>by
  rw[List.map_cons];unfold fN ew;by_cases he:n=e.1
  ·have:mR (.int .i64 n) (jm e).1=true:=by simp[mR,jm,he]
   rw[this,if_pos he];rfl
  ·have:mR (.int .i64 n) (jm e).1=false:=by simp[mR,jm,he]
   rw[this,if_neg he];exact Cd n es
def dX:ak:=⟨0,0,0,0,0,0⟩
def jS:List (Int×ak)→Int→ak→List (Int×ak)
 |[],n,v=>[(n,v)]
 |e::es,n,v=>if n=e.1 then(n,v)::es else e::jS es n v
theorem uw (n:Int) (v:ak):∀es:List (Int×ak),dL (es.map jm) (.int .i64 n) (.agg (eZ v))=(jS es n v).map jm
 |[]=>rfl
 |e::es=>by
  rw[List.map_cons];unfold dL jS;by_cases he:n=e.1
  ·have:mR (.int .i64 n) (jm e).1=true:=by simp[mR,jm,he]
   rw[this,if_pos he];rfl
  ·have:mR (.int .i64 n) (jm e).1=false:=by simp[mR,jm,he]
   rw[this,if_neg he];simp[uw n v es]
theorem ir {n:Int} {v:ak} {x:Int×ak}:∀{es:List (Int×ak)},(es.map (·.1)).Nodup→(x∈jS es n v↔x=(n,v)∨x.1≠n∧x∈es)
 |[],_=>by simp[jS]
 |e::es,h=>by
  simp only[List.map_cons,List.nodup_cons]at h;unfold jS;split
  ·rename_i he;have:∀y∈es,y.1≠n:=fun y hy e1=>h.1 (by rw[←he,←e1];exact List.mem_map_of_mem hy);grind
  ·have:=ir (n:=n) (v:=v) (x:=x) h.2;grind
theorem ru {n:Int} {v:ak}:∀{es:List (Int×ak)},(jS es n v).map (·.1)=if n∈es.map (·.1)then es.map (·.1)else es.map (·.1)++[n]
 |[]=>by simp[jS]
 |e::es=>by
  have:=ru (n:=n) (v:=v) (es:=es);unfold jS;split
  ·rename_i he;subst he;simp
  ·rename_i he;simp only[List.map_cons,this,List.mem_cons,he,false_or];split<;>simp
theorem I1 {n:Int} {v:ak} {es:List (Int×ak)} (h:(es.map (·.1)).Nodup):((jS es n v).map (·.1)).Nodup:=by
 rw[ru];split
 ·exact h
 ·rename_i hn;rw[List.nodup_append];refine⟨h,by simp,fun a ha b hb=>?_⟩;simp only[List.mem_singleton]at hb;subst hb;intro e;subst e;exact hn ha
def SS (l:List ak):Prop:=l.Pairwise fun a b=>a.slot<b.slot
theorem SS.ext {l l':List ak} (h:SS l) (h':SS l') (hm:∀x,x∈l↔x∈l'):l=l':=by
 have nd:∀{l:List ak},SS l→l.Nodup:=fun h=>h.imp fun h e=>by subst e;omega
 refine List.Perm.eq_of_pairwise (le:=fun a b:ak=>a.slot<b.slot) (fun a b _ _ h1 h2=>by omega) h h' ?_;exact(List.perm_ext_iff_of_nodup (nd h) (nd h')).2 hm
def put:List ak→ak→List ak
 |[],v=>[v]
 |x::l,v=>if x.slot<v.slot then x::put l v else if x.slot=v.slot then v::l else v::x::l
theorem gl {v x:ak}:∀{l:List ak},SS l→(x∈put l v↔x=v∨x.slot≠v.slot∧x∈l)
 |[],_=>by simp[put]
 |y::l,h=>by
  unfold SS at h;rw[List.pairwise_cons]at h;have ih:=gl (v:=v) (x:=x) (l:=l) h.2;unfold put;split
  ·have:=h.1;grind
  ·split
   ·have:=h.1;grind
   ·have:=h.1;grind
theorem zJ {v:ak}:∀{l:List ak},SS l→SS (put l v)
 |[],_=>by simp[put,SS]
 |y::l,h=>by
  have h0:=h;unfold SS at h;rw[List.pairwise_cons]at h;unfold put;split
  ·unfold SS;rw[List.pairwise_cons];refine⟨fun a ha=>?_,zJ h.2⟩;rw[gl h.2]at ha;rcases ha with rfl |⟨_,ha⟩
   ·assumption
   ·exact h.1 a ha
  ·split
   ·unfold SS;rw[List.pairwise_cons];exact⟨fun a ha=>by have:=h.1 a ha;omega,h.2⟩
   ·unfold SS;rw[List.pairwise_cons];refine⟨fun a ha=>?_,h0⟩;rcases List.mem_cons.1 ha with rfl |ha
    ·omega
    ·have:=h.1 a ha;omega
structure MV (es:List (Int×ak)):Prop where
 nd:(es.map (·.1)).Nodup
 key:∀e∈es,e.2.slot=e.1
def pL (es:List (Int×ak)):List ak:=(cb (es.map (·.1))).map (DX es)
theorem zK {es:List (Int×ak)} (h:MV es) {e:Int×ak} (he:e∈es):DX es e.1=e.2:=by
 unfold DX;have:es.find? (fun x=>x.1==e.1)=some e:=by
  have nd:=h.nd;clear h
  induction es with
  |nil=>simp at he
  |cons y es ih=>
   simp only[List.map_cons,List.nodup_cons]at nd;rcases List.mem_cons.1 he with rfl |he
   ·simp
   ·have:y.1≠e.1:=fun e1=>nd.1 (by rw[e1];exact List.mem_map_of_mem he);simp[this,ih he nd.2]
 rw[this]
theorem dI {ks:List Int} {x:Int}:x∈cb ks↔x∈ks:=(List.mergeSort_perm ks _).mem_iff
theorem PB (ks:List Int):(cb ks).Pairwise (· ≤·):=by
 have tr:∀a b c:Int,decide (a≤b)=true→decide (b≤c)=true→decide (a≤c)=true:=fun a b c h1 h2=>by simp only[decide_eq_true_eq]at*;omega
 have to:∀a b:Int,(decide (a≤b)||decide (b≤a))=true:=fun a b=>by simp only[Bool.or_eq_true,decide_eq_true_eq];omega
 exact(List.pairwise_mergeSort tr to ks).imp fun h=>by simpa using h
theorem PC {ks:List Int} (h:ks.Nodup):(cb ks).Pairwise (· <·):=by
 have h2:(cb ks).Nodup:=(List.mergeSort_perm ks _).nodup_iff.2 h;exact((PB ks).and h2).imp fun h=>by omega
theorem vU {es:List (Int×ak)} (h:MV es) {n:Int} (hn:n∈es.map (·.1)):(DX es n).slot=n:=by
 obtain⟨e,he,rfl⟩:=List.mem_map.1 hn;rw[zK h he,h.key e he]
theorem ux {es:List (Int×ak)} (h:MV es):SS (pL es):=by
 unfold SS pL;rw[List.pairwise_map];refine(List.Pairwise.and_mem.1 (PC h.nd)).imp fun {a b} LP=>?_;rw[vU h (dI.1 LP.1),vU h (dI.1 LP.2.1)];exact LP.2.2
theorem jn {es:List (Int×ak)} (h:MV es) {x:ak}:x∈pL es↔(x.slot,x)∈es:=by
 unfold pL;rw[List.mem_map];constructor
 ·rintro⟨n,hn,rfl⟩;rw[dI]at hn;obtain⟨e,he,rfl⟩:=List.mem_map.1 hn;rw[zK h he,h.key e he];exact he
 ·intro hx;exact⟨x.slot,dI.2 (List.mem_map.2 ⟨_,hx,rfl⟩),zK h hx⟩
theorem Gq (es:List (Int×ak)):(pL es).length=es.length:=by simp[pL,cb]
theorem sR {es:List (Int×ak)} (h:MV es) (al:Int):rising es al (cb (es.map (·.1)))=(pL es).filter fun v=>decide (al≤v.slot):=by
 unfold rising pL;rw[List.filter_map]
 congr 1
 refine List.filter_congr fun n hn=>?_;simp only[Function.comp_apply];rw[vU h (dI.1 hn)]
theorem MV.put {es:List (Int×ak)} (h:MV es) (v:ak):MV (jS es v.slot v):=by
 refine⟨I1 h.nd,fun e he=>?_⟩;rw[ir h.nd]at he;rcases he with rfl |⟨_,he⟩
 ·rfl
 ·exact h.key e he
theorem Gs {es:List (Int×ak)} (h:MV es) (v:ak):pL (jS es v.slot v)=put (pL es) v:=by
 refine(ux (h.put v)).ext (zJ (ux h)) fun x=>?_;rw[jn (h.put v),ir h.nd,gl (ux h),jn h];constructor
 ·rintro(hx|⟨h1,h2⟩)
  ·left;exact congrArg Prod.snd hx
  ·right;exact⟨h1,h2⟩
 ·rintro(hx|⟨h1,h2⟩)
  ·left;rw[hx]
  ·right;exact⟨h1,h2⟩
def pz (l:List ak) (slot:Int):Option ak:=l.find? fun v=>v.slot==slot
theorem o8 {n:Int} {v:ak}:∀{es:List (Int×ak)},(es.map (·.1)).Nodup→(ew es n=some v↔(n,v)∈es)
 |[],_=>by simp[ew]
 |e::es,h=>by
  simp only[List.map_cons,List.nodup_cons]at h;have ih:=o8 (n:=n) (v:=v) h.2;unfold ew;split
  ·rename_i he;have:∀y∈es,y.1≠n:=fun y hy e1=>h.1 (by rw[←he,←e1];exact List.mem_map_of_mem hy);grind
  ·grind
theorem fi {l:List ak} (h:SS l) {n:Int} {v:ak}:pz l n=some v↔v∈l∧v.slot=n:=by
 unfold pz
 induction l with
 |nil=>simp
 |cons y l ih=>
  unfold SS at h;rw[List.pairwise_cons]at h;have:=ih h.2;have h1:=h.1;rw[List.find?_cons];split<;>grind
theorem WD {α:Type} {a b:Option α} (h:∀x,a=some x↔b=some x):a=b:=by
 cases a with
 |none=>cases b with
  |none=>rfl
  |some y=>exact absurd ((h y).2 rfl) (by simp)
 |some x=>exact((h x).1 rfl).symm
theorem PD {es:List (Int×ak)} (h:MV es) (n:Int):ew es n=pz (pL es) n:=by
 refine WD fun x=>?_;rw[o8 h.nd,fi (ux h),jn h];constructor
 ·intro hx;have:=h.key _ hx;simp only at this;subst this;exact⟨hx,rfl⟩
 ·rintro⟨hx,rfl⟩;exact hx
def zL (k ch ep nd:Int):Int:=if k<0∨k≥5 then 1 else if k=0 then(if ch≠0∨ep≠0∨nd≠0 then 4 else 0)else if ch<0∨ch≥4∨ep<1∨nd<1∨nd>24 then 4 else 0
@[reducible] def aac (k ch ep nd:Int):TV:=.agg [.s (.int .i64 k),.s (.int .i64 ch),.s (.int .u64 ep),.s (.int .i64 nd)]
theorem l5 (k ch ep nd:Int):VC E0 131 0 [aac k ch ep nd] [] (RR (.s (.int .i64 (zL k ch ep nd))) 0 []):=by
 refine en L0 Tryz.f131 ?_
 repeat'(first|((first|(refine⟨fun h=>?_,fun h=>?_⟩)|(refine cU (fun h=>?_) (fun h=>?_))|(refine cS (fun h=>?_) (fun h=>?_)))<;>(conv=>whnf)))
 all_goals(refine⟨[],[],[],_,_,⟨?_,.nil,rfl⟩,rfl,rfl,rfl⟩)
 all_goals(refine .s (Lz.int ?_);simp[nQ,zL]at*;grind)
noncomputable def WE {α:Type} (a b:α):Bool:=@decide (a=b) (Classical.propDecidable _)
theorem ry {α:Type} {a b:α}:WE a b=true↔a=b:=by unfold WE;simp
theorem iP {α:Type} {a b:α}:WE a b=false↔a≠b:=by unfold WE;simp
theorem gV {α:Type} (l:List α) (i:Nat) (h:i<l.length):l.take (i+1)=l.take i++[l[i]]:=by rw[List.take_succ_eq_append_getElem h]
theorem PE (v w:ak):(nQ (.int .i64 v.slot) (.int .i64 w.slot)&&(nQ (.int .u64 v.ai) (.int .u64 w.ai)&&(nQ (.int .i64 v.kind) (.int .i64 w.kind)&&(nQ (.int .i64 v.chain) (.int .i64 w.chain)&&(nQ (.int .u64 v.aq) (.int .u64 w.aq)&&(nQ (.int .i64 v.node) (.int .i64 w.node)&&true))))))=WE v w:=by
 obtain⟨a,b,c,d,e,f⟩:=v;obtain⟨a',b',c',d',e',f'⟩:=w;rw[Bool.eq_iff_iff,ry];simp[nQ]
structure cA where
 kind:Int
 chain:Int
 aq:Int
 node:Int
@[reducible] def Ky (c:cA):TV:=aac c.kind c.chain c.aq c.node
def cA.check (c:cA):Int:=zL c.kind c.chain c.aq c.node
def ak.of (n b:Int) (c:cA):ak:=⟨n,b,c.kind,c.chain,c.aq,c.node⟩
def eN (p:Int) (es:List (Int×ak)) (b n:Int) (c:cA):Int×List (Int×ak)×Int:=
 if cd b=false∨n<0∨n≥512 then(p,es,1)else if c.check≠0 then(p,es,c.check)else if b<p then(p,es,10)else(b,jS es n (.of n b c),0)
theorem Md (p:Int) (es:List (Int×ak)) (b n:Int) (c:cA):VC E0 96 2 [.ptr 0 0,.s (.int .u64 b),.s (.int .i64 n),Ky c] [(0,zI p 1),(1,uv es)]
 (RR (.s (.int .i64 (eN p es b n c).2.2)) 2 [(0,zI (eN p es b n c).1 1),(1,uv (eN p es b n c).2.1)]):=by
 refine en L0 Tryz.f96 ?_;refine⟨[],[],_,_,_,_,Gp b,t3,?_⟩;rintro r o' c' ⟨rfl,rfl,rfl⟩;have bm:=True.intro;clear bm;cases hb:cd b
 ·have e:eN p es b n c=(p,es,1):=by unfold eN;grind
  rw[e];refine wh ?_;exact⟨[],[some 0,some 1],_,_,_,t3,rfl,rfl,rfl⟩
 ·refine wh ?_;refine sp ?_ ?_<;>intro h1
  ·have e:eN p es b n c=(p,es,1):=by unfold eN;grind
   rw[e];refine wh ?_;exact⟨[],[some 0,some 1],_,_,_,t3,rfl,rfl,rfl⟩
  ·refine wh ?_;refine sp ?_ ?_<;>intro h2
   ·have e:eN p es b n c=(p,es,1):=by unfold eN;grind
    rw[e];refine wh ?_;exact⟨[],[some 0,some 1],_,_,_,t3,rfl,rfl,rfl⟩
   ·refine wh ?_;refine⟨[],[],_,_,_,_,l5 c.kind c.chain c.aq c.node,t3,cw ?_⟩;refine sp ?_ ?_<;>intro hk
    ·have hk:c.check≠0:=hk;have e:eN p es b n c=(p,es,c.check):=by unfold eN;grind
     rw[e];refine wh ?_;exact⟨[],[some 0,some 1],_,_,_,t3,rfl,rfl,rfl⟩
    ·have kH:c.check=0:=Classical.not_not.1 hk;refine wh ?_;refine sp ?_ ?_<;>intro h3
     ·have e:eN p es b n c=(p,es,10):=by unfold eN;grind
      rw[e];refine wh ?_;exact⟨[],[some 0,some 1],_,_,_,t3,rfl,rfl,rfl⟩
     ·have e:eN p es b n c=(b,jS es n (.of n b c),0):=by unfold eN;grind
      rw[e];refine wh ?_;refine⟨[],[some 0,some 1],_,_,_,tx ?_,rfl,rfl,rfl⟩;exact Lz.of (uw n (.of n b c) es)
structure UM (p:Int) (es:List (Int×ak)):Prop where
 mv:MV es
 l6:∀e∈es,0≤e.1∧e.1<512
 bal:∀e∈es,e.2.ai≤p
theorem UM.ok {p:Int} {es:List (Int×ak)} (h:UM p es) (hl:es.length<1000):lW (es.map (·.1)):=by
 refine⟨by simp;omega,fun x hx=>?_,h.mv.nd⟩;obtain⟨e,he,rfl⟩:=List.mem_map.1 hx;have:=h.l6 e he;have h1:IntKind.i64.min= -9223372036854775808:=rfl;have h2:IntKind.i64.max=9223372036854775807:=rfl;omega
theorem SY {p b n:Int} {c:cA} {es:List (Int×ak)} (h:UM p es):UM (eN p es b n c).1 (eN p es b n c).2.1∧p≤(eN p es b n c).1∧(eN p es b n c).2.1.length≤es.length+1:=by
 unfold eN;split
 ·exact⟨h,Int.le_refl _,by simp⟩
 ·split
  ·exact⟨h,Int.le_refl _,by simp⟩
  ·split
   ·exact⟨h,Int.le_refl _,by simp⟩
   ·rename_i h1 _ h3;refine⟨⟨h.mv.put (.of n b c),fun e he=>?_,fun e he=>?_⟩,by simp;omega,?_⟩
    ·rw[ir h.mv.nd]at he;rcases he with rfl |⟨_,he⟩
     ·simp at h1 ⊢;omega
     ·exact h.l6 e he
    ·rw[ir h.mv.nd]at he;rcases he with rfl |⟨_,he⟩
     ·simp[ak.of]
     ·have:=h.bal e he;simp;omega
    ·have:=congrArg List.length (ru (n:=n) (v:=.of n b c) (es:=es));simp only[List.length_map]at this;simp only
     rw[this];split<;>simp
def vV (n:Int):Prop:=IntKind.i64.min≤n∧n≤IntKind.i64.max
def gJ (es:List (Int×ak)) (v:ak):List (Int×ak):=match ew es v.slot with
 |none=>jS es v.slot v
 |some w=>if v.ai>w.ai then jS es v.slot v else es
def gm (l:List ak):List (Int×ak):=l.foldl gJ []
def PF (out:List ak) (v:ak):List ak:=match pz out v.slot with
 |none=>put out v
 |some w=>if v.ai>w.ai then put out v else out
theorem zM (l:List ak) (v:ak):gm (l++[v])=gJ (gm l) v:=by simp[gm]
structure KB (es:List (Int×ak)):Prop where
 mv:MV es
 l6:∀e∈es,vV e.1
theorem KB.ok {es:List (Int×ak)} (h:KB es) (hl:es.length<100000):lW (es.map (·.1)):=by
 refine⟨by simp;omega,fun x hx=>?_,h.mv.nd⟩;obtain⟨e,he,rfl⟩:=List.mem_map.1 hx;exact h.l6 e he
theorem KB.put {es:List (Int×ak)} (h:KB es) {v:ak} (hv:vV v.slot):KB (jS es v.slot v):=
 ⟨h.mv.put v,fun e he=>by
  rw[ir h.mv.nd]at he;rcases he with rfl |⟨_,he⟩
  ·exact hv
  ·exact h.l6 e he⟩
theorem Gt (es:List (Int×ak)) (n:Int) (v:ak):(jS es n v).length≤es.length+1:=by
 have:=congrArg List.length (ru (n:=n) (v:=v) (es:=es));simp only[List.length_map]at this;rw[this];split<;>simp
theorem Ce {es:List (Int×ak)} (h:KB es) {v:ak} (hv:vV v.slot):KB (gJ es v)∧(gJ es v).length≤es.length+1∧pL (gJ es v)=PF (pL es) v:=by
 unfold gJ PF;rw[←PD h.mv];cases ew es v.slot with
 |none=>exact⟨h.put hv,Gt ..,Gs h.mv v⟩
 |some w=>
  by_cases hb:v.ai>w.ai
  ·simp only[hb,if_true];exact⟨h.put hv,Gt ..,Gs h.mv v⟩
  ·simp only[hb,if_false];exact⟨h,Nat.le_succ _,trivial⟩
theorem l7 {l:List ak} (hl:∀v∈l,vV v.slot):KB (gm l)∧(gm l).length≤l.length:=by
 have:∀(l:List ak) (es:List (Int×ak)),KB es→(∀v∈l,vV v.slot)→KB (l.foldl gJ es)∧(l.foldl gJ es).length≤es.length+l.length:=by
  intro l
  induction l with
  |nil=>intro es h _;exact⟨h,Nat.le_refl _⟩
  |cons v l ih=>
   intro es h hv;obtain⟨h1,h2,_⟩:=Ce h (hv v List.mem_cons_self);obtain⟨h3,h4⟩:=ih _ h1 fun w hw=>hv w (List.mem_cons_of_mem _ hw);exact⟨h3,by simp only[List.foldl_cons,List.length_cons];omega⟩
 have:=this l [] ⟨⟨by simp,by simp⟩,by simp⟩ hl;unfold gm;simpa using this
def Gu (l:List ak):List TV:=[.sl 6 (l.map eZ) false]
theorem Me {l:List (List ak)} {i:Nat} (h:i<l.length):(l.take (i+1)).flatten=(l.take i).flatten++l[i]:=by
 rw[List.take_succ_eq_append_getElem h,List.flatten_append,List.flatten_cons,List.flatten_nil,List.append_nil]
theorem vW {l:List (List ak)} (h8:l.length≤8) (Yn:∀x∈l,x.length≤600) {i:Nat}:(l.take i).flatten.length≤4800:=by
 have:∀m:List (List ak),(∀x∈m,x.length≤600)→m.flatten.length≤600*m.length:=by
  intro m
  induction m with
  |nil=>simp
  |cons x m ih=>
   intro h;have h1:=h x List.mem_cons_self;have h2:=ih fun y hy=>h y (List.mem_cons_of_mem _ hy);simp only[List.flatten_cons,List.length_append,List.length_cons];omega
 have h1:=this (l.take i) fun x hx=>Yn x (List.mem_of_mem_take hx);have h2:(l.take i).length≤8:=by rw[List.length_take];omega
 omega
theorem WG {l:List (List ak)} (hr:∀x∈l,∀v∈x,vV v.slot) {i j:Nat} (h:i<l.length):∀v∈(l.take i).flatten++l[i].take j,vV v.slot:=by
 intro v hv;rcases List.mem_append.1 hv with hv|hv
 ·obtain⟨x,hx,hv⟩:=List.mem_flatten.1 hv;exact hr x (List.mem_of_mem_take hx) v hv
 ·exact hr _ (List.getElem_mem h) v (List.mem_of_mem_take hv)
def ey (l:List (List ak)):List ak:=pL (gm l.flatten)
theorem I2 {es:List (Int×ak)} (h:MV es) (h0:0<es.length):rising es (Small.xu (es.map (·.1))) (cb (es.map (·.1)))=pL es:=by
 rw[sR h,List.filter_eq_self];intro v hv;have:=(jn h).1 hv;exact decide_eq_true ((Small.vO (by simpa using h0)).2 _ (List.mem_map.2 ⟨_,this,rfl⟩))
theorem I3 (es:List (Int×ak)) (fG:lW (es.map (·.1))) (h0:0<es.length):VC E0 135 2 [.dc 248 [] [.ptr 1 0]] [(0,.map (eE .i64) (es.map jm)),(1,.cells [.mp 0])] (fun r o c=>r= .bg 2 (es.map (·.1)).length∧c=3∧
      o=[(2,.eQ (es.map (·.1))),(0,.map (eE .i64) (es.map jm)),(1,.cells [.mp 0])]):=
 VC.collect (E:=E0) (g:=135) (lp:=[248,185]) (k:=248) (by kernel_rfl) (fun _ _=>rfl) rfl (y:=.map (eE .i64) (es.map jm)) (ks:=es.map (·.1)) (by simp[Gd,Function.comp_def,jm]) fG (by intro e;simp at e;subst e;simp at h0)
theorem SZ (ks:List Int) (h0:0<ks.length) (hl:ks.length≤1000000):VC E0 223 1 [.bg 0 ks.length] [(0,.eQ ks)] (fun r o c=>r= .s (.int .i64 (Small.xu ks))∧c=1∧o=[(0,.eQ ks)]):=
 VC.Ps (E:=E0) (g:=223) (val:=vP) (pre:=[]) (by kernel_rfl) (fun _ _=>rfl) (by simp) h0 (v:=.int .i64 (Small.xu ks)) (by
  cases ks with
  |nil=>simp at h0
  |cons a l=>simp only[vP,bO];rw[Nat.ble_eq_true_of_le hl]) rfl
theorem S5 (l:List (List ak)) (h8:l.length≤8) (Yn:∀x∈l,x.length≤600) (hr:∀x∈l,∀v∈x,vV v.slot):VC E0 186 0 [.sl 1 (l.map Gu) false] [] (RR (.sl 6 ((ey l).map eZ) false) 0 []):=by
 refine en L0 Tryz.f186 ?_;refine⟨fun k f o c=>∃i:Nat,i≤l.length∧k=l.length - i∧c=1∧f=[(3,.mp 0),(11,.sl 1 (l.map Gu) false),(12,.s (.int .i64 l.length)),(13,.s (.int .i64 i))]∧o=[(0,uv (gm (l.take i).flatten))],⟨l.length,?_⟩,?_⟩
 ·refine⟨[],[some 0],?_⟩
  iterate 3 constructor
  refine⟨⟨?_,?_,?_⟩,⟨0,Nat.zero_le _,rfl,rfl,rfl,rfl⟩⟩
  all_goals(repeat' first|exact LF|constructor)
  all_goals exact Lz.of (by simp[goInt])
 ·rintro k f1 o1 c1 ⟨i,hi,rfl,rfl,rfl,rfl⟩;refine wh ?_;refine sp ?_ ?_<;>intro h
  ·have h:i<l.length:=by simpa using h
   have age:=Yn _ (List.getElem_mem h);refine wh ?_;refine eT h ?_;refine wh ?_;refine⟨fun k f o c=>∃j:Nat,j≤l[i].length∧k=l[i].length - j∧c=1∧f=[(3,.mp 0),(11,.sl 1 (l.map Gu) false),(12,.s (.int .i64 l.length)),(13,.s (.int .i64 i)),(17,.sl 6 (l[i].map eZ) false),(18,.s (.int .i64 l[i].length)),(19,.s (.int .i64 j))]∧o=[(0,uv (gm ((l.take i).flatten++l[i].take j)))],⟨l[i].length,?_⟩,?_⟩
   ·refine⟨[],[some 0],?_⟩
    iterate 3 constructor
    refine⟨⟨?_,?_,?_⟩,⟨0,Nat.zero_le _,rfl,rfl,rfl,rfl⟩⟩
    all_goals(repeat' first|exact LF|constructor)
    all_goals first|exact Lz.of (by simp[goInt])|exact Lz.of (by simp)
   ·rintro k f1 o1 c1 ⟨j,hj,rfl,rfl,rfl,rfl⟩;refine wh ?_;refine sp ?_ ?_<;>intro hj
    ·have hj:j<l[i].length:=by simpa using hj
     obtain⟨hkb,hlen⟩:=l7 (WG hr (j:=j) h);have wo:gm ((l.take i).flatten++l[i].take (j+1))=gJ (gm ((l.take i).flatten++l[i].take j)) l[i][j]:=by
      rw[List.take_succ_eq_append_getElem hj,←List.append_assoc,zM]
     generalize fT:gm ((l.take i).flatten++l[i].take j)=es at*
     refine wh ?_;refine eT hj ?_;refine wh ?_;have nS:=Cd l[i][j].slot es;cases hv:ew es l[i][j].slot with
     |none=>
      rw[hv]at nS;refine⟨_,nS,?_⟩;refine wh ?_;refine⟨l[i].length - (j+1),?_,om⟩;refine⟨[],[some 0],?_⟩
      iterate 3 constructor
      refine⟨⟨?_,?_,?_⟩,⟨j+1,hj,rfl,rfl,rfl,rfl⟩⟩
      all_goals(repeat' first|exact LF|constructor)
      refine Lz.of ?_;rw[wo];unfold gJ;rw[hv];exact uw _ _ _
     |some w=>
      rw[hv]at nS;refine⟨_,nS,?_⟩;refine wh ?_;refine sp ?_ ?_<;>intro hb
      ·refine wh ?_;refine⟨l[i].length - (j+1),?_,om⟩;refine⟨[],[some 0],?_⟩
       iterate 3 constructor
       refine⟨⟨?_,?_,?_⟩,⟨j+1,hj,rfl,rfl,rfl,rfl⟩⟩
       all_goals(repeat' first|exact LF|constructor)
       refine Lz.of ?_;rw[wo];unfold gJ;rw[hv];simp only;rw[if_pos hb];exact uw _ _ _
      ·refine wh ?_;refine⟨l[i].length - (j+1),?_,om⟩;refine⟨[],[some 0],?_⟩
       iterate 3 constructor
       refine⟨⟨?_,?_,?_⟩,⟨j+1,hj,rfl,rfl,rfl,rfl⟩⟩
       all_goals(repeat' first|exact LF|constructor)
       refine Lz.of ?_;rw[wo];unfold gJ;rw[hv];simp only;rw[if_neg hb]
    ·have Gv:j=l[i].length:=by have:¬j<l[i].length:=by simpa using hj
                               omega
     subst Gv;refine wh ?_;refine⟨l.length - (i+1),?_,om⟩;refine⟨[],[some 0],?_⟩
     iterate 3 constructor
     refine⟨⟨?_,?_,?_⟩,⟨i+1,h,rfl,rfl,rfl,rfl⟩⟩
     all_goals(repeat' first|exact LF|constructor)
     refine Lz.of ?_;rw[Me h,List.take_length]
  ·have h':i=l.length:=by have:¬i<l.length:=by simpa using h
                          omega
   subst h';have hb:gm (l.take l.length).flatten=gm l.flatten:=by rw[List.take_length]
   rw[hb];have u4:l.flatten.length≤4800:=by have:=vW h8 Yn (i:=l.length);rwa [List.take_length]at this
   obtain⟨hkb,hlen⟩:=l7 (l:=l.flatten) (fun v hv=>by obtain⟨x,hx,hv⟩:=List.mem_flatten.1 hv;exact hr x hx v hv);have hbv:ey l=pL (gm l.flatten):=rfl;generalize fT:gm l.flatten=es at*
   refine wh ?_;refine sp ?_ ?_<;>intro h0
   ·have h0:es=[]:=by simpa using h0
    subst h0;rw[hbv];refine wh ?_;refine⟨[],[],_,_,_,tx ?_,rfl,rfl,rfl⟩;exact Lz.of (by simp[pL,cb])
   ·have h0:0<es.length:=by
     have:es≠[]:=by simpa using h0
     exact List.length_pos_iff.2 this
    refine wh ?_;refine⟨[],[some 0],_,_,_,_,Kx (es.map jm),t3,cw ?_⟩;refine⟨[],[some 0,some 2],_,_,_,_,I3 es (hkb.ok om) h0,t3,cw ?_⟩;refine⟨[],[some 5],_,_,_,_,SZ (es.map (·.1)) (by simpa using h0) (by simp;omega),t3,cw ?_⟩;refine⟨[],[some 0],_,_,_,_,Cc es (Small.xu (es.map (·.1))) (hkb.ok om) om,t3,cw ?_⟩;rw[I2 hkb.mv h0,hbv];exact⟨[8],[],_,_,_,t3,rfl,rfl,rfl⟩
end Go.M
