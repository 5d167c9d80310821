/-
  Part 17 of the library that the proof leans on.
-/
import Derived.Test.YtmocpiopjkmnhaaGreatDoorL15
import Derived.Test.YtmocpiopjkmnhaaGreatDoorL16
namespace Go.M
open Go Go.Proofs
def kinds0:List Value:=[
 .string ⟨#[]⟩,.int .i64 0,.int .i64 0,.int .i64 0,.int .i64 0,.int .i64 0,.int .i64 0,
 .string ⟨#[112,114,101,112,97,114,101]⟩,.int .i64 4,.int .i64 32,.int .i64 0,.int .i64 0,.int .i64 0,.int .i64 0,
 .string ⟨#[112,114,111,109,105,115,101]⟩,.int .i64 4,.int .i64 32,.int .i64 4096,.int .i64 0,.int .i64 0,.int .i64 0,
 .string ⟨#[97,99,99,101,112,116]⟩,.int .i64 4,.int .i64 32,.int .i64 1024,.int .i64 0,.int .i64 0,.int .i64 0,
 .string ⟨#[97,99,99,101,112,116,101,100]⟩,.int .i64 4,.int .i64 32,.int .i64 0,.int .i64 0,.int .i64 0,.int .i64 0,
 .string ⟨#[99,104,111,115,101,110]⟩,.int .i64 32,.int .i64 1024,.int .i64 0,.int .i64 0,.int .i64 0,.int .i64 0,
 .string ⟨#[98,101,97,116]⟩,.int .i64 4,.int .i64 32,.int .i64 0,.int .i64 0,.int .i64 0,.int .i64 0,
 .string ⟨#[119,97,110,116]⟩,.int .i64 32,.int .i64 0,.int .i64 0,.int .i64 0,.int .i64 0,.int .i64 0,
 .string ⟨#[114,101,102,117,115,101]⟩,.int .i64 4,.int .i64 0,.int .i64 0,.int .i64 0,.int .i64 0,.int .i64 0,
 .string ⟨#[114,101,112,111,114,116]⟩,.int .i64 1024,.int .i64 0,.int .i64 0,.int .i64 0,.int .i64 0,.int .i64 0,
 .string ⟨#[108,111,99,97,116,101]⟩,.int .i64 1,.int .i64 0,.int .i64 0,.int .i64 0,.int .i64 0,.int .i64 0,
 .string ⟨#[99,111,110,102,105,103]⟩,.int .i64 2048,.int .i64 0,.int .i64 0,.int .i64 0,.int .i64 0,.int .i64 0,
 .string ⟨#[112,117,115,104]⟩,.int .i64 1,.int .i64 2,.int .i64 8,.int .i64 16,.int .i64 8192,.int .i64 0,
 .string ⟨#[97,99,107]⟩,.int .i64 1,.int .i64 2,.int .i64 8,.int .i64 16,.int .i64 64,.int .i64 32,
 .string ⟨#[112,97,114,116]⟩,.int .i64 1,.int .i64 2,.int .i64 8,.int .i64 32,.int .i64 64,.int .i64 16384,
 .string ⟨#[113,117,101,114,121]⟩,.int .i64 1,.int .i64 2,.int .i64 64,.int .i64 256,.int .i64 0,.int .i64 0,
 .string ⟨#[116,111,108,100]⟩,.int .i64 1,.int .i64 2,.int .i64 64,.int .i64 256,.int .i64 512,.int .i64 0,
 .string ⟨#[119,114,105,116,101]⟩,.int .i64 1,.int .i64 2,.int .i64 8192,.int .i64 0,.int .i64 0,.int .i64 0,
 .string ⟨#[119,114,111,116,101]⟩,.int .i64 64,.int .i64 128,.int .i64 512,.int .i64 0,.int .i64 0,.int .i64 0,
 .string ⟨#[114,101,97,100]⟩,.int .i64 1,.int .i64 2,.int .i64 64,.int .i64 256,.int .i64 0,.int .i64 0,
 .string ⟨#[103,111,116]⟩,.int .i64 64,.int .i64 256,.int .i64 512,.int .i64 16384,.int .i64 0,.int .i64 0]
def tabs0:Tabs:=[(0,kinds0)]
def orcTF:FuncId→List Value→AHeap→Option (Value×AHeap):=fun g args h=>match Nat.beq g 56 with
 |true=>sortedU args h
 |false=>none
noncomputable def E0:=envT Tryz.prog tabs0 (orcX tabs0 [5] orcTF)
set_option maxRecDepth 100000
noncomputable def T0:=tE E0 [29,169]
theorem rows0:[29,169].all (eqRow E0)=true:=by kernel_rfl
theorem L0:EnvLe T0 E0:=tE_le (fun t z h=>by
 simp only[E0,envT,envOf,Option.bind_eq_some_iff,grd_some,Option.some.injEq]at h
 obtain⟨i,h1,z',h2,h3,rfl⟩:=h
 exact h3) rows0
theorem orcTF_ok (hm:Tryz.prog.follows .mixedOrders=true) (base B:Nat):OrcOk Tryz.prog (envOf Tryz.prog orcTF) base B:=by
 intro μ h w g args args' v h' hc hr H F n hF
 have hc':orcTF g args h=some (v,h'):=hc
 unfold orcTF at hc'
 split at hc'
 ·rename_i hg
  obtain rfl:=beq_iff.1 hg
  exact sortedU_ok hm (fun g hg=>by cases hg) hc' hr H hF n
 ·cases hc'
theorem VC.keysU {y:TO} {ks:List Int} (hy:KeysP ks y) (hok:ks.length<1):VC E0 56 2 [.clo 100 [] [.ptr 1 0]] [(0,y),(1,.cells [.mp 0])] (RR (.sl 1 ((sortZ ks).map encK) false) 3 [(0,y),(1,.cells [.mp 0])]):=
 VC.sortedU (E:=E0) (by show(Tryz.prog.funcs[56]?).isSome=true;kernel_rfl) (fun b a=>by
  show orcX tabs0 [5] orcTF 56 a=_
  unfold orcX
  rfl) hy hok
@[reducible] def encI1 (n:Int):List TV:=[.s (.int .i64 n)]
end Go.M
namespace Go.M
open Go Go.Proofs
set_option maxRecDepth 100000
set_option maxHeartbeats 2000000
structure CF where
 chain:Int
 epoch:Int
 nodes:List Int
 fresh:Bool
 join:Int
def encCF (c:CF):List TV:=[.s (.int .i64 c.chain),.s (.int .u64 c.epoch),.sl 1 (c.nodes.map encI1) false,.s (.bool c.fresh),.s (.int .i64 c.join)]
theorem indexI_ok (l:List Int) (x:Int) (hl:l.length<1000000):VC E0 95 0 [.sl 1 (l.map encI1) false,.s (.int .i64 x)] []
 (fun r o c=>∃i:Int,r= .s (.int .i64 i)∧(0≤i↔x∈l)∧c=0∧o=[]):=by
 refine VC.enterR L0 (show E0.func 95=some Tryz.f95 by kernel_rfl) (fun _ _=>rfl) rfl rfl [] ?_
 conv=>whnf
 refine⟨fun k f o c=>∃j:Nat,j≤l.length∧k=l.length - j∧x∉l.take j∧c=0∧f=[(0,.sl 1 (l.map encI1) false),(1,.s (.int .i64 x)),(7,.s (.int .i64 l.length)),(8,.s (.int .i64 j))]∧o=[],⟨l.length,?_⟩,?_⟩
 ·refine⟨[],[],?_⟩
  iterate 3 constructor
  refine⟨⟨?_,?_,?_⟩,⟨0,Nat.zero_le _,rfl,by simp,rfl,rfl,rfl⟩⟩
  all_goals(repeat' first|exact LF|constructor)
  exact Lz.int (by rw[List.length_map])
 ·rintro k f1 o1 c1 ⟨j,hj,rfl,hn,rfl,rfl,rfl⟩
  conv=>whnf
  (first|refine⟨?_,?_⟩|refine nsplit ?_ ?_|refine bsplit ?_ ?_)<;>intro h<;>have hz_:=True.intro<;>clear hz_
  ·have h:j<l.length:=by have:(j:Int)<(l.length:Nat):=h
                         omega
   conv=>whnf
   refine idxI h ?_
   conv=>whnf
   (first|refine⟨?_,?_⟩|refine nsplit ?_ ?_|refine bsplit ?_ ?_)<;>intro he<;>have hz_:=True.intro<;>clear hz_
   ·have he:x=l[j]:=he
    conv=>whnf
    exact⟨[],[],_,_,_,t3,_,rfl,⟨fun _=>he▸List.getElem_mem h,fun _=>Int.natCast_nonneg j⟩,rfl,rfl⟩
   ·have he:¬x=l[j]:=he
    conv=>whnf
    refine⟨l.length - (j+1),?_,by omega⟩
    exact⟨[],[],_,_,_,t3,⟨j+1,h,rfl,(by rw[List.take_succ_eq_append_getElem h];simp only[List.mem_append,List.mem_singleton,not_or];exact⟨hn,he⟩),rfl,rfl,rfl⟩⟩
  ·have hj':j=l.length:=by have:¬(j:Int)<(l.length:Nat):=h
                           omega
   subst hj'
   rw[List.take_length]at hn
   conv=>whnf
   exact⟨[],[],_,_,_,t3,_,rfl,⟨fun h=>absurd h (by decide),fun h=>absurd h hn⟩,rfl,rfl⟩
theorem containsI_ok (l:List Int) (x:Int) (hl:l.length<1000000):VC E0 84 0 [.sl 1 (l.map encI1) false,.s (.int .i64 x)] [] (RR (.s (.bool (decide (x∈l)))) 0 []):=by
 refine VC.enterR L0 (show E0.func 84=some Tryz.f84 by kernel_rfl) (fun _ _=>rfl) rfl rfl [] ?_
 conv=>whnf
 refine⟨[],[],_,_,_,_,indexI_ok l x hl,t3,?_⟩
 rintro r o' c' ⟨i,rfl,hi,rfl,rfl⟩
 conv=>whnf
 (first|refine⟨?_,?_⟩|refine nsplit ?_ ?_|refine bsplit ?_ ?_)<;>intro hge<;>have hz_:=True.intro<;>clear hz_
 ·have hge:i≥0:=hge
  conv=>whnf
  refine⟨[],[],?_⟩
  iterate 3 constructor
  refine⟨⟨?_,?_,?_⟩,rfl,rfl,rfl⟩
  all_goals(repeat' first|exact LF|constructor)
  exact Lz.of (bool_eq (Eq.symm (decide_eq_true (hi.1 hge))))
 ·have hge:¬i≥0:=hge
  conv=>whnf
  refine⟨[],[],?_⟩
  iterate 3 constructor
  refine⟨⟨?_,?_,?_⟩,rfl,rfl,rfl⟩
  all_goals(repeat' first|exact LF|constructor)
  exact Lz.of (bool_eq (Eq.symm (decide_eq_false (mt hi.2 hge))))
theorem cloneI_ok (l:List Int) (hl:l.length<1000000):VC E0 195 0 [.sl 1 (l.map encI1) false] [] (RR (.tk 0) 1 [(0,.arr 1 true (l.map encI1))]):=by
 refine VC.enterR L0 (show E0.func 195=some Tryz.f195 by kernel_rfl) (fun _ _=>rfl) rfl rfl [] ?_
 conv=>whnf
 refine⟨fun h=>?_,?_⟩
 ·have h:l=[]:=by simpa using h
  subst h
  conv=>whnf
  exact⟨[],[none],_,_,_,t3,rfl,rfl,rfl⟩
 ·conv=>whnf
  refine⟨by simp;omega,?_⟩
  conv=>whnf
  exact⟨[],[some 1],_,_,_,t3,rfl,rfl,rfl⟩
def nodeB (n:Int):Bool:=decide (1≤n∧n≤24)
theorem node_ok (n:Int):VC E0 196 0 [.s (.int .i64 n)] [] (RR (.s (.bool (nodeB n))) 0 []):=by
 refine VC.enterR L0 (show E0.func 196=some Tryz.f196 by kernel_rfl) (fun _ _=>rfl) rfl rfl [] ?_
 conv=>whnf
 (first|refine⟨?_,?_⟩|refine nsplit ?_ ?_|refine bsplit ?_ ?_)<;>intro h1<;>have hz_:=True.intro<;>clear hz_
 ·have h1:n≥1:=h1
  conv=>whnf
  (first|refine⟨?_,?_⟩|refine nsplit ?_ ?_|refine bsplit ?_ ?_)<;>intro h2<;>have hz_:=True.intro<;>clear hz_
  ·have h2:n≤24:=h2
   conv=>whnf
   refine⟨[],[],?_⟩
   iterate 3 constructor
   refine⟨⟨?_,?_,?_⟩,rfl,rfl,rfl⟩
   all_goals(repeat' first|exact LF|constructor)
   exact Lz.of (bool_eq (Eq.symm (decide_eq_true ⟨h1,h2⟩)))
  ·have h2:¬n≤24:=h2
   conv=>whnf
   refine⟨[],[],?_⟩
   iterate 3 constructor
   refine⟨⟨?_,?_,?_⟩,rfl,rfl,rfl⟩
   all_goals(repeat' first|exact LF|constructor)
   exact Lz.of (bool_eq (Eq.symm (decide_eq_false fun h=>h2 h.2)))
 ·have h1:¬n≥1:=h1
  conv=>whnf
  refine⟨[],[],?_⟩
  iterate 3 constructor
  refine⟨⟨?_,?_,?_⟩,rfl,rfl,rfl⟩
  all_goals(repeat' first|exact LF|constructor)
  exact Lz.of (bool_eq (Eq.symm (decide_eq_false fun h=>h1 h.1)))
def unlikeP (l:List Int):Prop:=l.Nodup∧∀n∈l,1≤n∧n≤24
instance (l:List Int):Decidable (unlikeP l):=inferInstanceAs (Decidable (_∧_))
theorem unlike_snoc (l:List Int) (n:Int):unlikeP (l++[n])↔unlikeP l∧(1≤n∧n≤24)∧n∉l:=by
 unfold unlikeP
 rw[List.nodup_append]
 constructor
 ·rintro⟨⟨h1,_,h2⟩,h3⟩
  exact⟨⟨h1,fun m hm=>h3 m (List.mem_append_left _ hm)⟩,h3 n (by simp),fun hm=>h2 n hm n (by simp) rfl⟩
 ·rintro⟨⟨h1,h2⟩,h3,h4⟩
  refine⟨⟨h1,by simp,fun a ha b hb=>?_⟩,fun m hm=>?_⟩
  ·simp at hb;subst hb;rintro rfl;exact h4 ha
  ·rcases List.mem_append.1 hm with q|q
   ·exact h2 m q
   ·simp at q;subst q;exact h3
theorem unlike_take {l:List Int} {i:Nat} (h:unlikeP l):unlikeP (l.take i):=⟨(List.take_sublist i l).nodup h.1,fun n hn=>h.2 n (List.mem_of_mem_take hn)⟩
theorem unlikeC (l:List Int) (hl:l.length<1000000):VC E0 154 0 [.sl 1 (l.map encI1) false] [] (RR (.s (.bool (decide (unlikeP l)))) 0 []):=by
 refine VC.enterR L0 (show E0.func 154=some Tryz.f154 by kernel_rfl) (fun _ _=>rfl) rfl rfl [] ?_
 conv=>whnf
 refine⟨fun k f o c=>∃j:Nat,j≤l.length∧k=l.length - j∧unlikeP (l.take j)∧c=0∧f=[(0,.sl 1 (l.map encI1) false),(5,.sl 1 (l.map encI1) false),(6,.s (.int .i64 l.length)),(7,.s (.int .i64 j))]∧o=[],⟨l.length,?_⟩,?_⟩
 ·refine⟨[],[],?_⟩
  iterate 3 constructor
  refine⟨⟨?_,?_,?_⟩,⟨0,Nat.zero_le _,rfl,⟨by simp,by simp⟩,rfl,rfl,rfl⟩⟩
  all_goals(repeat' first|exact LF|constructor)
  exact Lz.int (by rw[List.length_map])
 ·rintro k f1 o1 c1 ⟨j,hj,rfl,hn,rfl,rfl,rfl⟩
  conv=>whnf
  (first|refine⟨?_,?_⟩|refine nsplit ?_ ?_|refine bsplit ?_ ?_)<;>intro h<;>have hz_:=True.intro<;>clear hz_
  ·have h:j<l.length:=by have:(j:Int)<(l.length:Nat):=h
                         omega
   conv=>whnf
   refine idxI h ?_
   conv=>whnf
   have hs:=unlike_snoc (l.take j) l[j]
   rw[←List.take_succ_eq_append_getElem h]at hs
   refine⟨[],[],_,_,_,_,node_ok l[j],t3,?_⟩
   rintro r o' c' ⟨rfl,rfl,rfl⟩
   have hz_:=True.intro
   clear hz_
   cases hb:nodeB l[j]
   ·have hb:¬(1≤l[j]∧l[j]≤24):=of_decide_eq_false hb
    conv=>whnf
    refine⟨[],[],?_⟩
    iterate 3 constructor
    refine⟨⟨?_,?_,?_⟩,rfl,rfl,rfl⟩
    all_goals(repeat' first|exact LF|constructor)
    exact Lz.of (bool_eq (Eq.symm (decide_eq_false fun q=>hb (hs.1 (unlike_take q)).2.1)))
   ·have hb:1≤l[j]∧l[j]≤24:=of_decide_eq_true hb
    conv=>whnf
    refine⟨⟨by omega,by omega,by simp;omega⟩,?_⟩
    conv=>whnf
    refine⟨[],[],_,_,_,_,containsI_ok (l.take j) l[j] (by simp;omega),⟨by((repeat' first|exact LF|constructor);all_goals(exact Lz.of (by simp[List.map_take]))),by((repeat' first|exact LF|constructor);all_goals(exact Lz.of (by simp[List.map_take]))),by rfl⟩,?_⟩
    rintro r o' c' ⟨rfl,rfl,rfl⟩
    conv=>whnf
    by_cases hm:l[j]∈l.take j
    ·rw[decide_eq_true hm]
     conv=>whnf
     refine⟨[],[],?_⟩
     iterate 3 constructor
     refine⟨⟨?_,?_,?_⟩,rfl,rfl,rfl⟩
     all_goals(repeat' first|exact LF|constructor)
     exact Lz.of (bool_eq (Eq.symm (decide_eq_false fun q=>(hs.1 (unlike_take q)).2.2 hm)))
    ·rw[decide_eq_false hm]
     conv=>whnf
     refine⟨l.length - (j+1),?_,by omega⟩
     exact⟨[],[],_,_,_,t3,⟨j+1,h,rfl,hs.2 ⟨hn,hb,hm⟩,rfl,rfl,rfl⟩⟩
  ·have hj':j=l.length:=by have:¬(j:Int)<(l.length:Nat):=h
                           omega
   subst hj'
   rw[List.take_length]at hn
   conv=>whnf
   refine⟨[],[],?_⟩
   iterate 3 constructor
   refine⟨⟨?_,?_,?_⟩,rfl,rfl,rfl⟩
   all_goals(repeat' first|exact LF|constructor)
   exact Lz.of (bool_eq (Eq.symm (decide_eq_true hn)))
end Go.M
namespace Go.M
open Go Go.Proofs
set_option maxRecDepth 100000
set_option maxHeartbeats 2000000
def standL (c:CF):List Int:=c.nodes++(if c.join=0 then []else [c.join])
theorem standL_len (c:CF):(standL c).length≤c.nodes.length+1:=by unfold standL;split<;>simp
theorem everybodyC (c:CF) (hl:c.nodes.length<100000):VC E0 155 0 [.agg (encCF c)] [] (RR (.tk 0) 1 [(0,.arr 1 true ((standL c).map encI1))]):=by
 refine VC.enterR L0 (show E0.func 155=some Tryz.f155 by kernel_rfl) (fun _ _=>rfl) rfl rfl [] ?_
 conv=>whnf
 (first|refine⟨?_,?_⟩|refine nsplit ?_ ?_|refine bsplit ?_ ?_)<;>intro hj<;>have hz_:=True.intro<;>clear hz_
 ·have hj:c.join=0:=hj
  conv=>whnf
  refine⟨[],[],_,_,_,_,cloneI_ok c.nodes (by omega),t3,cR ?_⟩
  conv=>whnf
  refine⟨[],[some 1],?_⟩
  iterate 3 constructor
  refine⟨⟨?_,?_,?_⟩,rfl,rfl,rfl⟩
  all_goals(repeat' first|exact LF|constructor)
  exact Lz.of (by unfold standL;simp[hj])
 ·have hj:¬c.join=0:=hj
  ((conv=>whnf)<;>repeat(with_reducible refine D1 ?_)<;>conv=>whnf)
  refine⟨[],[],_,_,_,_,cloneI_ok c.nodes (by omega),t3,cR ?_⟩
  conv=>whnf
  refine⟨by simp;omega,?_⟩
  ((conv=>whnf)<;>repeat(with_reducible refine D1 ?_)<;>conv=>whnf)
  refine⟨[],[some 3],?_⟩
  iterate 3 constructor
  refine⟨⟨?_,?_,?_⟩,rfl,rfl,rfl⟩
  all_goals(repeat' first|exact LF|constructor)
  exact Lz.of (by unfold standL;simp[hj])
def rightP (c:CF):Prop:=(0≤c.chain∧c.chain<4)∧1≤c.epoch∧(1≤c.nodes.length∧c.nodes.length≤5)∧(c.fresh=true→2≤c.nodes.length∧c.join=0)∧unlikeP (standL c)
instance (c:CF):Decidable (rightP c):=inferInstanceAs (Decidable (_∧_))
theorem right_ok (c:CF):VC E0 93 0 [.agg (encCF c)] [] (RR (.s (.bool (decide (rightP c)))) 0 []):=by
 have hsl:=standL_len c
 refine VC.enterR L0 (show E0.func 93=some Tryz.f93 by kernel_rfl) (fun _ _=>rfl) rfl rfl [] ?_
 conv=>whnf
 (first|refine⟨?_,?_⟩|refine nsplit ?_ ?_|refine bsplit ?_ ?_)<;>intro h1<;>have hz_:=True.intro<;>clear hz_
 ·have h1:c.chain<0:=h1
  conv=>whnf
  refine⟨[],[],?_⟩
  iterate 3 constructor
  refine⟨⟨?_,?_,?_⟩,rfl,rfl,rfl⟩
  all_goals(repeat' first|exact LF|constructor)
  exact Lz.of (bool_eq (Eq.symm (decide_eq_false fun q=>by obtain⟨⟨_,_⟩,_,⟨_,_⟩,_,_⟩:=q;omega)))
 have h1:¬c.chain<0:=h1
 conv=>whnf
 (first|refine⟨?_,?_⟩|refine nsplit ?_ ?_|refine bsplit ?_ ?_)<;>intro h2<;>have hz_:=True.intro<;>clear hz_
 ·have h2:c.chain≥4:=h2
  conv=>whnf
  refine⟨[],[],?_⟩
  iterate 3 constructor
  refine⟨⟨?_,?_,?_⟩,rfl,rfl,rfl⟩
  all_goals(repeat' first|exact LF|constructor)
  exact Lz.of (bool_eq (Eq.symm (decide_eq_false fun q=>by obtain⟨⟨_,_⟩,_,⟨_,_⟩,_,_⟩:=q;omega)))
 have h2:¬c.chain≥4:=h2
 conv=>whnf
 (first|refine⟨?_,?_⟩|refine nsplit ?_ ?_|refine bsplit ?_ ?_)<;>intro h3<;>have hz_:=True.intro<;>clear hz_
 ·have h3:c.epoch<1:=h3
  conv=>whnf
  refine⟨[],[],?_⟩
  iterate 3 constructor
  refine⟨⟨?_,?_,?_⟩,rfl,rfl,rfl⟩
  all_goals(repeat' first|exact LF|constructor)
  exact Lz.of (bool_eq (Eq.symm (decide_eq_false fun q=>by obtain⟨⟨_,_⟩,_,⟨_,_⟩,_,_⟩:=q;omega)))
 have h3:¬c.epoch<1:=h3
 conv=>whnf
 (first|refine⟨?_,?_⟩|refine nsplit ?_ ?_|refine bsplit ?_ ?_)<;>intro h4<;>have hz_:=True.intro<;>clear hz_
 ·have h4:(((c.nodes.map encI1).length:Nat):Int)<1:=h4
  rw[List.length_map]at h4
  conv=>whnf
  refine⟨[],[],?_⟩
  iterate 3 constructor
  refine⟨⟨?_,?_,?_⟩,rfl,rfl,rfl⟩
  all_goals(repeat' first|exact LF|constructor)
  exact Lz.of (bool_eq (Eq.symm (decide_eq_false fun q=>by obtain⟨⟨_,_⟩,_,⟨_,_⟩,_,_⟩:=q;omega)))
 have h4:¬(((c.nodes.map encI1).length:Nat):Int)<1:=h4
 rw[List.length_map]at h4
 conv=>whnf
 (first|refine⟨?_,?_⟩|refine nsplit ?_ ?_|refine bsplit ?_ ?_)<;>intro h5<;>have hz_:=True.intro<;>clear hz_
 ·have h5:(((c.nodes.map encI1).length:Nat):Int)>5:=h5
  rw[List.length_map]at h5
  conv=>whnf
  refine⟨[],[],?_⟩
  iterate 3 constructor
  refine⟨⟨?_,?_,?_⟩,rfl,rfl,rfl⟩
  all_goals(repeat' first|exact LF|constructor)
  exact Lz.of (bool_eq (Eq.symm (decide_eq_false fun q=>by obtain⟨⟨_,_⟩,_,⟨_,_⟩,_,_⟩:=q;omega)))
 have h5:¬(((c.nodes.map encI1).length:Nat):Int)>5:=h5
 rw[List.length_map]at h5
 conv=>whnf
 cases hf:c.fresh
 ·conv=>whnf
  refine⟨[],[],_,_,_,_,everybodyC c (by omega),⟨by((repeat' first|exact LF|constructor);all_goals(exact Lz.of (bool_eq hf.symm))),by((repeat' first|exact LF|constructor);all_goals(exact Lz.of (bool_eq hf.symm))),by rfl⟩,?_⟩
  rintro r o' c' ⟨rfl,rfl,rfl⟩
  conv=>whnf
  refine⟨[1],[],_,_,_,_,unlikeC (standL c) (by omega),t3,cR ?_⟩
  conv=>whnf
  refine⟨[],[],?_⟩
  iterate 3 constructor
  refine⟨⟨?_,?_,?_⟩,rfl,rfl,rfl⟩
  all_goals(repeat' first|exact LF|constructor)
  exact Lz.of (bool_eq (decide_eq_decide.2 ⟨fun q=>⟨⟨by omega,by omega⟩,by omega,⟨by omega,by omega⟩,(fun e=>absurd (hf.symm.trans e) (by decide)),q⟩,fun q=>q.2.2.2.2⟩))
 ·conv=>whnf
  (first|refine⟨?_,?_⟩|refine nsplit ?_ ?_|refine bsplit ?_ ?_)<;>intro h6<;>have hz_:=True.intro<;>clear hz_
  ·have h6:(((c.nodes.map encI1).length:Nat):Int)<2:=h6
   rw[List.length_map]at h6
   conv=>whnf
   refine⟨[],[],?_⟩
   iterate 3 constructor
   refine⟨⟨?_,?_,?_⟩,rfl,rfl,rfl⟩
   all_goals(repeat' first|exact LF|constructor)
   exact Lz.of (bool_eq (Eq.symm (decide_eq_false fun q=>by have:=q.2.2.2.1 hf;omega)))
  have h6:¬(((c.nodes.map encI1).length:Nat):Int)<2:=h6
  rw[List.length_map]at h6
  conv=>whnf
  (first|refine⟨?_,?_⟩|refine nsplit ?_ ?_|refine bsplit ?_ ?_)<;>intro h7<;>have hz_:=True.intro<;>clear hz_
  ·have h7:c.join≠0:=h7
   conv=>whnf
   refine⟨[],[],?_⟩
   iterate 3 constructor
   refine⟨⟨?_,?_,?_⟩,rfl,rfl,rfl⟩
   all_goals(repeat' first|exact LF|constructor)
   exact Lz.of (bool_eq (Eq.symm (decide_eq_false fun q=>by have:=q.2.2.2.1 hf;omega)))
  have h7:c.join=0:=Classical.not_not.1 h7
  conv=>whnf
  refine⟨[],[],_,_,_,_,everybodyC c (by omega),⟨by((repeat' first|exact LF|constructor);all_goals(exact Lz.of (bool_eq hf.symm))),by((repeat' first|exact LF|constructor);all_goals(exact Lz.of (bool_eq hf.symm))),by rfl⟩,?_⟩
  rintro r o' c' ⟨rfl,rfl,rfl⟩
  conv=>whnf
  refine⟨[1],[],_,_,_,_,unlikeC (standL c) (by omega),t3,cR ?_⟩
  conv=>whnf
  refine⟨[],[],?_⟩
  iterate 3 constructor
  refine⟨⟨?_,?_,?_⟩,rfl,rfl,rfl⟩
  all_goals(repeat' first|exact LF|constructor)
  exact Lz.of (bool_eq (decide_eq_decide.2 ⟨fun q=>⟨⟨by omega,by omega⟩,by omega,⟨by omega,by omega⟩,(fun e=>⟨by omega,h7⟩),q⟩,fun q=>q.2.2.2.2⟩))
end Go.M
namespace Go.M
open Go Go.Proofs
set_option maxRecDepth 100000
set_option maxHeartbeats 4000000
def TB:TV→Ob→Nat→Prop:=fun r o c=>∃b:Bool,r= .s (.bool b)∧c=0∧o=[]
def TI:TV→Ob→Nat→Prop:=fun r o c=>∃n:Int,r= .s (.int .i64 n)∧c=0∧o=[]
structure UpF where
 (seq client num kind key ver:Int) (data:List Int)
@[reducible] def encB1 (n:Int):List TV:=[.s (.int .u8 n)]
@[reducible] def encUF (u:UpF):List TV:=[.s (.int .u64 u.seq),.s (.int .i64 u.client),.s (.int .u64 u.num),.s (.int .i64 u.kind),.s (.int .u32 u.key),.s (.int .u64 u.ver),.sl 1 (u.data.map encB1) false]
structure VoF where
 (slot ballot kind chain epoch node:Int)
@[reducible] def encVF (v:VoF):List TV:=[.s (.int .i64 v.slot),.s (.int .u64 v.ballot),.s (.int .i64 v.kind),.s (.int .i64 v.chain),.s (.int .u64 v.epoch),.s (.int .i64 v.node)]
structure CmF where
 (kind chain epoch node:Int)
@[reducible] def encMF (c:CmF):List TV:=[.s (.int .i64 c.kind),.s (.int .i64 c.chain),.s (.int .u64 c.epoch),.s (.int .i64 c.node)]
@[reducible] def zCm:CmF:=⟨0,0,0,0⟩
@[reducible] def zCf:CF:=⟨0,0,[],false,0⟩
structure LtF where
 (kind frm to chain epoch ballot num seq done ver slot key code:Int) (cmd:CmF) (conf:CF) (votes:List VoF) (us:List UpF) (data:List Int)
@[reducible] def encL (m:LtF):List TV:=[.s (.int .i64 m.kind),.s (.int .i64 m.frm),.s (.int .i64 m.to),.s (.int .i64 m.chain),.s (.int .u64 m.epoch),.s (.int .u64 m.ballot),.s (.int .u64 m.num),.s (.int .u64 m.seq),.s (.int .u64 m.done),.s (.int .u64 m.ver),.s (.int .i64 m.slot),.s (.int .u32 m.key),.s (.int .i64 m.code),
 .s (.int .i64 m.cmd.kind),.s (.int .i64 m.cmd.chain),.s (.int .u64 m.cmd.epoch),.s (.int .i64 m.cmd.node),.s (.int .i64 m.conf.chain),.s (.int .u64 m.conf.epoch),.sl 1 (m.conf.nodes.map encI1) false,.s (.bool m.conf.fresh),.s (.int .i64 m.conf.join),.sl 6 (m.votes.map encVF) false,.sl 7 (m.us.map encUF) false,.sl 1 (m.data.map encB1) false]
@[reducible] def zLt (k f t:Int):LtF:=⟨k,f,t,0,0,0,0,0,0,0,0,0,0,zCm,zCf,[],[],[]⟩
@[reducible] def oL2 (m m':LtF):Ob:=[(0,.cells (encL m)),(1,.cells (encL m'))]
theorem bareF1 (m m':LtF):VC E0 110 2 [.ptr 0 0,.ptr 1 0] (oL2 m m') (RR (.tup []) 2 (oL2 m {m' with chain:=m.chain})):=by
 refine VC.enterR L0 (show E0.func 110=some Tryz.f110 by kernel_rfl) (fun _ _=>rfl) rfl rfl [] ?_
 conv=>whnf
 exact⟨[],[some 0,some 1],_,_,_,t3,rfl,rfl,rfl⟩
theorem bareF2 (m m':LtF):VC E0 111 2 [.ptr 0 0,.ptr 1 0] (oL2 m m') (RR (.tup []) 2 (oL2 m {m' with epoch:=m.epoch})):=by
 refine VC.enterR L0 (show E0.func 111=some Tryz.f111 by kernel_rfl) (fun _ _=>rfl) rfl rfl [] ?_
 conv=>whnf
 exact⟨[],[some 0,some 1],_,_,_,t3,rfl,rfl,rfl⟩
theorem bareF8 (m m':LtF):VC E0 113 2 [.ptr 0 0,.ptr 1 0] (oL2 m m') (RR (.tup []) 2 (oL2 m {m' with seq:=m.seq})):=by
 refine VC.enterR L0 (show E0.func 113=some Tryz.f113 by kernel_rfl) (fun _ _=>rfl) rfl rfl [] ?_
 conv=>whnf
 exact⟨[],[some 0,some 1],_,_,_,t3,rfl,rfl,rfl⟩
theorem bareF16 (m m':LtF):VC E0 114 2 [.ptr 0 0,.ptr 1 0] (oL2 m m') (RR (.tup []) 2 (oL2 m {m' with done:=m.done})):=by
 refine VC.enterR L0 (show E0.func 114=some Tryz.f114 by kernel_rfl) (fun _ _=>rfl) rfl rfl [] ?_
 conv=>whnf
 exact⟨[],[some 0,some 1],_,_,_,t3,rfl,rfl,rfl⟩
theorem bareF32 (m m':LtF):VC E0 115 2 [.ptr 0 0,.ptr 1 0] (oL2 m m') (RR (.tup []) 2 (oL2 m {m' with slot:=m.slot})):=by
 refine VC.enterR L0 (show E0.func 115=some Tryz.f115 by kernel_rfl) (fun _ _=>rfl) rfl rfl [] ?_
 conv=>whnf
 exact⟨[],[some 0,some 1],_,_,_,t3,rfl,rfl,rfl⟩
theorem bareF64 (m m':LtF):VC E0 116 2 [.ptr 0 0,.ptr 1 0] (oL2 m m') (RR (.tup []) 2 (oL2 m {m' with num:=m.num})):=by
 refine VC.enterR L0 (show E0.func 116=some Tryz.f116 by kernel_rfl) (fun _ _=>rfl) rfl rfl [] ?_
 conv=>whnf
 exact⟨[],[some 0,some 1],_,_,_,t3,rfl,rfl,rfl⟩
theorem bareF128 (m m':LtF):VC E0 117 2 [.ptr 0 0,.ptr 1 0] (oL2 m m') (RR (.tup []) 2 (oL2 m {m' with code:=m.code})):=by
 refine VC.enterR L0 (show E0.func 117=some Tryz.f117 by kernel_rfl) (fun _ _=>rfl) rfl rfl [] ?_
 conv=>whnf
 exact⟨[],[some 0,some 1],_,_,_,t3,rfl,rfl,rfl⟩
theorem bareF256 (m m':LtF):VC E0 118 2 [.ptr 0 0,.ptr 1 0] (oL2 m m') (RR (.tup []) 2 (oL2 m {m' with key:=m.key})):=by
 refine VC.enterR L0 (show E0.func 118=some Tryz.f118 by kernel_rfl) (fun _ _=>rfl) rfl rfl [] ?_
 conv=>whnf
 exact⟨[],[some 0,some 1],_,_,_,t3,rfl,rfl,rfl⟩
theorem bareF512 (m m':LtF):VC E0 119 2 [.ptr 0 0,.ptr 1 0] (oL2 m m') (RR (.tup []) 2 (oL2 m {m' with ver:=m.ver})):=by
 refine VC.enterR L0 (show E0.func 119=some Tryz.f119 by kernel_rfl) (fun _ _=>rfl) rfl rfl [] ?_
 conv=>whnf
 exact⟨[],[some 0,some 1],_,_,_,t3,rfl,rfl,rfl⟩
theorem bareF8192 (m m':LtF):VC E0 123 2 [.ptr 0 0,.ptr 1 0] (oL2 m m') (RR (.tup []) 2 (oL2 m {m' with us:=m.us})):=by
 refine VC.enterR L0 (show E0.func 123=some Tryz.f123 by kernel_rfl) (fun _ _=>rfl) rfl rfl [] ?_
 conv=>whnf
 exact⟨[],[some 0,some 1],_,_,_,t3,rfl,rfl,rfl⟩
theorem bareF16384 (m m':LtF):VC E0 124 2 [.ptr 0 0,.ptr 1 0] (oL2 m m') (RR (.tup []) 2 (oL2 m {m' with data:=m.data})):=by
 refine VC.enterR L0 (show E0.func 124=some Tryz.f124 by kernel_rfl) (fun _ _=>rfl) rfl rfl [] ?_
 conv=>whnf
 exact⟨[],[some 0,some 1],_,_,_,t3,rfl,rfl,rfl⟩
theorem wr0:IntKind.i64.wrap (0+1)=1:=rfl
theorem wr1:IntKind.i64.wrap (1+1)=2:=rfl
theorem wr2:IntKind.i64.wrap (2+1)=3:=rfl
theorem wr3:IntKind.i64.wrap (3+1)=4:=rfl
theorem wr4:IntKind.i64.wrap (4+1)=5:=rfl
theorem wr5:IntKind.i64.wrap (5+1)=6:=rfl
theorem wr6:IntKind.i64.wrap (6+1)=7:=rfl
theorem wr7:IntKind.i64.wrap (7+1)=8:=rfl
theorem wr8:IntKind.i64.wrap (8+1)=9:=rfl
theorem wr9:IntKind.i64.wrap (9+1)=10:=rfl
theorem wrA:IntKind.i64.wrap (10+1)=11:=rfl
theorem wrB:IntKind.i64.wrap (11+1)=12:=rfl
theorem wrC:IntKind.i64.wrap (12+1)=13:=rfl
theorem wrD:IntKind.i64.wrap (13+1)=14:=rfl
theorem wrE:IntKind.i64.wrap (14+1)=15:=rfl
theorem or0_1:IntKind.i64.wrap ↑(BitVec.ofInt IntKind.i64.bits 0|||BitVec.ofInt IntKind.i64.bits 1).toNat=1:=rfl
theorem or1_2:IntKind.i64.wrap ↑(BitVec.ofInt IntKind.i64.bits 1|||BitVec.ofInt IntKind.i64.bits 2).toNat=3:=rfl
theorem or3_8:IntKind.i64.wrap ↑(BitVec.ofInt IntKind.i64.bits 3|||BitVec.ofInt IntKind.i64.bits 8).toNat=11:=rfl
theorem or11_16:IntKind.i64.wrap ↑(BitVec.ofInt IntKind.i64.bits 11|||BitVec.ofInt IntKind.i64.bits 16).toNat=27:=rfl
theorem or27_8192:IntKind.i64.wrap ↑(BitVec.ofInt IntKind.i64.bits 27|||BitVec.ofInt IntKind.i64.bits 8192).toNat=8219:=rfl
theorem or8219_0:IntKind.i64.wrap ↑(BitVec.ofInt IntKind.i64.bits 8219|||BitVec.ofInt IntKind.i64.bits 0).toNat=8219:=rfl
theorem or27_64:IntKind.i64.wrap ↑(BitVec.ofInt IntKind.i64.bits 27|||BitVec.ofInt IntKind.i64.bits 64).toNat=91:=rfl
theorem or91_32:IntKind.i64.wrap ↑(BitVec.ofInt IntKind.i64.bits 91|||BitVec.ofInt IntKind.i64.bits 32).toNat=123:=rfl
theorem or11_32:IntKind.i64.wrap ↑(BitVec.ofInt IntKind.i64.bits 11|||BitVec.ofInt IntKind.i64.bits 32).toNat=43:=rfl
theorem or43_64:IntKind.i64.wrap ↑(BitVec.ofInt IntKind.i64.bits 43|||BitVec.ofInt IntKind.i64.bits 64).toNat=107:=rfl
theorem or107_16384:IntKind.i64.wrap ↑(BitVec.ofInt IntKind.i64.bits 107|||BitVec.ofInt IntKind.i64.bits 16384).toNat=16491:=rfl
theorem or3_64:IntKind.i64.wrap ↑(BitVec.ofInt IntKind.i64.bits 3|||BitVec.ofInt IntKind.i64.bits 64).toNat=67:=rfl
theorem or67_256:IntKind.i64.wrap ↑(BitVec.ofInt IntKind.i64.bits 67|||BitVec.ofInt IntKind.i64.bits 256).toNat=323:=rfl
theorem or323_0:IntKind.i64.wrap ↑(BitVec.ofInt IntKind.i64.bits 323|||BitVec.ofInt IntKind.i64.bits 0).toNat=323:=rfl
theorem or323_512:IntKind.i64.wrap ↑(BitVec.ofInt IntKind.i64.bits 323|||BitVec.ofInt IntKind.i64.bits 512).toNat=835:=rfl
theorem or835_0:IntKind.i64.wrap ↑(BitVec.ofInt IntKind.i64.bits 835|||BitVec.ofInt IntKind.i64.bits 0).toNat=835:=rfl
theorem or3_8192:IntKind.i64.wrap ↑(BitVec.ofInt IntKind.i64.bits 3|||BitVec.ofInt IntKind.i64.bits 8192).toNat=8195:=rfl
theorem or8195_0:IntKind.i64.wrap ↑(BitVec.ofInt IntKind.i64.bits 8195|||BitVec.ofInt IntKind.i64.bits 0).toNat=8195:=rfl
theorem or0_64:IntKind.i64.wrap ↑(BitVec.ofInt IntKind.i64.bits 0|||BitVec.ofInt IntKind.i64.bits 64).toNat=64:=rfl
theorem or64_128:IntKind.i64.wrap ↑(BitVec.ofInt IntKind.i64.bits 64|||BitVec.ofInt IntKind.i64.bits 128).toNat=192:=rfl
theorem or192_512:IntKind.i64.wrap ↑(BitVec.ofInt IntKind.i64.bits 192|||BitVec.ofInt IntKind.i64.bits 512).toNat=704:=rfl
theorem or704_0:IntKind.i64.wrap ↑(BitVec.ofInt IntKind.i64.bits 704|||BitVec.ofInt IntKind.i64.bits 0).toNat=704:=rfl
theorem or64_256:IntKind.i64.wrap ↑(BitVec.ofInt IntKind.i64.bits 64|||BitVec.ofInt IntKind.i64.bits 256).toNat=320:=rfl
theorem or320_512:IntKind.i64.wrap ↑(BitVec.ofInt IntKind.i64.bits 320|||BitVec.ofInt IntKind.i64.bits 512).toNat=832:=rfl
theorem or832_16384:IntKind.i64.wrap ↑(BitVec.ofInt IntKind.i64.bits 832|||BitVec.ofInt IntKind.i64.bits 16384).toNat=17216:=rfl
theorem or17216_0:IntKind.i64.wrap ↑(BitVec.ofInt IntKind.i64.bits 17216|||BitVec.ofInt IntKind.i64.bits 0).toNat=17216:=rfl
end Go.M
namespace Go.M
open Go Go.Proofs
set_option maxRecDepth 100000
set_option maxHeartbeats 4000000
theorem indexF_ok (l:List Int) (x:Int) (hl:l.length<1000000):VC E0 95 0 [.sl 1 (l.map encI1) false,.s (.int .i64 x)] []
 (fun r o c=>∃i:Int,r= .s (.int .i64 i)∧c=0∧o=[]∧(i= -1∨∃j:Nat,∃h:j<l.length,i=j∧l[j]=x)):=by
 refine VC.enterR L0 (show E0.func 95=some Tryz.f95 by kernel_rfl) (fun _ _=>rfl) rfl rfl [] ?_
 conv=>whnf
 refine⟨fun k f o c=>∃j:Nat,j≤l.length∧k=l.length - j∧c=0∧f=[(0,.sl 1 (l.map encI1) false),(1,.s (.int .i64 x)),(7,.s (.int .i64 l.length)),(8,.s (.int .i64 j))]∧o=[],⟨l.length,?_⟩,?_⟩
 ·refine⟨[],[],?_⟩
  iterate 3 constructor
  refine⟨⟨?_,?_,?_⟩,⟨0,Nat.zero_le _,rfl,rfl,rfl,rfl⟩⟩
  all_goals(repeat' first|exact LF|constructor)
  exact Lz.int (by rw[List.length_map])
 ·rintro k f1 o1 c1 ⟨j,hj,rfl,rfl,rfl,rfl⟩
  conv=>whnf
  (first|refine⟨?_,?_⟩|refine nsplit ?_ ?_|refine bsplit ?_ ?_)<;>intro h<;>have hz_:=True.intro<;>clear hz_
  ·have h:j<l.length:=by have:(j:Int)<(l.length:Nat):=h
                         omega
   conv=>whnf
   refine idxI h ?_
   conv=>whnf
   (first|refine⟨?_,?_⟩|refine nsplit ?_ ?_|refine bsplit ?_ ?_)<;>intro he<;>have hz_:=True.intro<;>clear hz_
   ·have he:x=l[j]:=he
    conv=>whnf
    exact⟨[],[],_,_,_,t3,_,rfl,rfl,rfl,.inr ⟨j,h,rfl,he.symm⟩⟩
   ·conv=>whnf
    refine⟨l.length - (j+1),?_,by omega⟩
    exact⟨[],[],_,_,_,t3,⟨j+1,h,rfl,rfl,rfl,rfl⟩⟩
  ·conv=>whnf
   exact⟨[],[],_,_,_,t3,_,rfl,rfl,rfl,.inl rfl⟩
def tailL (c:CF):Int:=if rightP c then c.nodes.getLastD 0 else 0
theorem tailR_ok (c:CF):VC E0 94 0 [.agg (encCF c)] [] (RR (.s (.int .i64 (tailL c))) 0 []):=by
 have hr:=right_ok c
 refine VC.enterR L0 (show E0.func 94=some Tryz.f94 by kernel_rfl) (fun _ _=>rfl) rfl rfl [] ?_
 conv=>whnf
 by_cases h:rightP c
 ·have ht:tailL c=c.nodes[c.nodes.length - 1]'(by have:=h.2.2.1;omega):=by
   unfold tailL
   rw[if_pos h,List.getLastD_eq_getLast?,List.getLast?_eq_getElem?,List.getElem?_eq_getElem (by have:=h.2.2.1;omega)]
   rfl
  rw[decide_eq_true h]at hr
  have hn:=h.2.2.1
  refine⟨[],[],_,_,_,_,hr,t3,cR ?_⟩
  conv=>whnf
  rw[show IntKind.i64.wrap ((((c.nodes.map encI1).length:Nat):Int) - 1)=((c.nodes.length - 1:Nat):Int)from by rw[List.length_map,IntWalk.i64_in _ (by omega)];omega]
  refine idxI (show c.nodes.length - 1<c.nodes.length by omega) ?_
  conv=>whnf
  refine⟨[],[],?_⟩
  iterate 3 constructor
  refine⟨⟨?_,?_,?_⟩,rfl,rfl,rfl⟩
  all_goals(repeat' first|exact LF|constructor)
  exact Lz.of (by rw[ht])
 ·have ht:tailL c=0:=if_neg h
  rw[decide_eq_false h]at hr
  refine⟨[],[],_,_,_,_,hr,t3,cR ?_⟩
  conv=>whnf
  rw[ht]
  exact⟨[],[],_,_,_,t3,rfl,rfl,rfl⟩
structure RoF where
 (a b c d e:Bool) (f g h:Int)
@[reducible] def encRo (r:RoF):List TV:=[.s (.bool r.a),.s (.bool r.b),.s (.bool r.c),.s (.bool r.d),.s (.bool r.e),.s (.int .i64 r.f),.s (.int .i64 r.g),.s (.int .i64 r.h)]
def TRo:TV→Ob→Nat→Prop:=fun r o c=>∃q:RoF,r= .agg (encRo q)∧c=0∧o=[]
theorem roleOf_ok (c:CF) (node:Int):VC E0 44 0 [.agg (encCF c),.s (.int .i64 node)] [] TRo:=by
 have hr:=right_ok c
 have ht:=tailR_ok c
 refine VC.enterR L0 (show E0.func 44=some Tryz.f44 by kernel_rfl) (fun _ _=>rfl) rfl rfl [] ?_
 conv=>whnf
 by_cases h:rightP c
 ·rw[decide_eq_true h]at hr
  have hn:=h.2.2.1
  have hi:=indexF_ok c.nodes node (by omega)
  have htl:tailL c=c.nodes[c.nodes.length - 1]'(by omega):=by
   unfold tailL
   rw[if_pos h,List.getLastD_eq_getLast?,List.getLast?_eq_getElem?,List.getElem?_eq_getElem (by omega)]
   rfl
  generalize tailL c=t at ht htl
  refine⟨[],[],_,_,_,_,hr,t3,cR ?_⟩
  conv=>whnf
  (first|refine⟨?_,?_⟩|refine nsplit ?_ ?_|refine bsplit ?_ ?_)<;>intro h0<;>have hz_:=True.intro<;>clear hz_
  ·conv=>whnf
   exact⟨[],[],_,_,_,t3,⟨_,_,_,_,_,_,_,_⟩,rfl,rfl,rfl⟩
  conv=>whnf
  (first|refine⟨?_,?_⟩|refine nsplit ?_ ?_|refine bsplit ?_ ?_)<;>intro h1<;>have hz_:=True.intro<;>clear hz_
  ·conv=>whnf
   refine⟨[],[],_,_,_,_,ht,t3,cR ?_⟩
   conv=>whnf
   exact⟨[],[],_,_,_,t3,⟨_,_,_,_,_,_,_,_⟩,rfl,rfl,rfl⟩
  conv=>whnf
  refine⟨[],[],_,_,_,_,hi,t3,?_⟩
  rintro r o' c' ⟨i,rfl,rfl,rfl,hi⟩
  conv=>whnf
  (first|refine⟨?_,?_⟩|refine nsplit ?_ ?_|refine bsplit ?_ ?_)<;>intro h2<;>have hz_:=True.intro<;>clear hz_
  ·conv=>whnf
   exact⟨[],[],_,_,_,t3,⟨_,_,_,_,_,_,_,_⟩,rfl,rfl,rfl⟩
  rcases hi with rfl |⟨j,hj,rfl,hjx⟩
  ·exact absurd (by decide) h2
  ((conv=>whnf)<;>repeat(with_reducible refine D1 ?_)<;>conv=>whnf)
  (first|refine⟨?_,?_⟩|refine nsplit ?_ ?_|refine bsplit ?_ ?_)<;>intro h3<;>have hz_:=True.intro<;>clear hz_
  ·conv=>whnf
   refine⟨[],[],_,_,_,_,ht,t3,cR ?_⟩
   conv=>whnf
   (first|refine⟨?_,?_⟩|refine nsplit ?_ ?_|refine bsplit ?_ ?_)<;>intro h4<;>have hz_:=True.intro<;>clear hz_
   ·((conv=>whnf)<;>repeat(with_reducible refine D1 ?_)<;>conv=>whnf)
    (first|refine⟨?_,?_⟩|refine nsplit ?_ ?_|refine bsplit ?_ ?_)<;>intro h5<;>have hz_:=True.intro<;>clear hz_
    ·conv=>whnf
     rw[show IntKind.i64.wrap ((j:Int) - 1)=((j - 1:Nat):Int)from by have h5:(j:Int)>0:=h5;rw[IntWalk.i64_in _ (by omega)];omega]
     refine idxI (show j - 1<c.nodes.length by omega) ?_
     conv=>whnf
     exact⟨[],[],_,_,_,t3,⟨_,_,_,_,_,_,_,_⟩,rfl,rfl,rfl⟩
    ·conv=>whnf
     exact⟨[],[],_,_,_,t3,⟨_,_,_,_,_,_,_,_⟩,rfl,rfl,rfl⟩
   ·have h4:¬node=t:=h4
    ((conv=>whnf)<;>repeat(with_reducible refine D1 ?_)<;>conv=>whnf)
    (first|refine⟨?_,?_⟩|refine nsplit ?_ ?_|refine bsplit ?_ ?_)<;>intro h5<;>have hz_:=True.intro<;>clear hz_
    ·conv=>whnf
     rw[show IntKind.i64.wrap ((j:Int) - 1)=((j - 1:Nat):Int)from by have h5:(j:Int)>0:=h5;rw[IntWalk.i64_in _ (by omega)];omega]
     refine idxI (show j - 1<c.nodes.length by omega) ?_
     conv=>whnf
     have hjl:j+1<c.nodes.length:=by
      rcases Nat.lt_or_ge (j+1) c.nodes.length with q|q
      ·exact q
      ·exfalso
       refine h4 ?_
       rw[←hjx,htl]
       congr 1
       omega
     conv=>whnf
     rw[wrap_small j (by omega)]
     refine idxI hjl ?_
     conv=>whnf
     exact⟨[],[],_,_,_,t3,⟨_,_,_,_,_,_,_,_⟩,rfl,rfl,rfl⟩
    ·have hjl:j+1<c.nodes.length:=by
      rcases Nat.lt_or_ge (j+1) c.nodes.length with q|q
      ·exact q
      ·exfalso
       refine h4 ?_
       rw[←hjx,htl]
       congr 1
       omega
     conv=>whnf
     rw[wrap_small j (by omega)]
     refine idxI hjl ?_
     conv=>whnf
     exact⟨[],[],_,_,_,t3,⟨_,_,_,_,_,_,_,_⟩,rfl,rfl,rfl⟩
  ·conv=>whnf
   refine⟨[],[],_,_,_,_,ht,t3,cR ?_⟩
   conv=>whnf
   (first|refine⟨?_,?_⟩|refine nsplit ?_ ?_|refine bsplit ?_ ?_)<;>intro h4<;>have hz_:=True.intro<;>clear hz_
   ·((conv=>whnf)<;>repeat(with_reducible refine D1 ?_)<;>conv=>whnf)
    (first|refine⟨?_,?_⟩|refine nsplit ?_ ?_|refine bsplit ?_ ?_)<;>intro h5<;>have hz_:=True.intro<;>clear hz_
    ·conv=>whnf
     rw[show IntKind.i64.wrap ((j:Int) - 1)=((j - 1:Nat):Int)from by have h5:(j:Int)>0:=h5;rw[IntWalk.i64_in _ (by omega)];omega]
     refine idxI (show j - 1<c.nodes.length by omega) ?_
     conv=>whnf
     exact⟨[],[],_,_,_,t3,⟨_,_,_,_,_,_,_,_⟩,rfl,rfl,rfl⟩
    ·conv=>whnf
     exact⟨[],[],_,_,_,t3,⟨_,_,_,_,_,_,_,_⟩,rfl,rfl,rfl⟩
   ·have h4:¬node=t:=h4
    ((conv=>whnf)<;>repeat(with_reducible refine D1 ?_)<;>conv=>whnf)
    (first|refine⟨?_,?_⟩|refine nsplit ?_ ?_|refine bsplit ?_ ?_)<;>intro h5<;>have hz_:=True.intro<;>clear hz_
    ·conv=>whnf
     rw[show IntKind.i64.wrap ((j:Int) - 1)=((j - 1:Nat):Int)from by have h5:(j:Int)>0:=h5;rw[IntWalk.i64_in _ (by omega)];omega]
     refine idxI (show j - 1<c.nodes.length by omega) ?_
     conv=>whnf
     have hjl:j+1<c.nodes.length:=by
      rcases Nat.lt_or_ge (j+1) c.nodes.length with q|q
      ·exact q
      ·exfalso
       refine h4 ?_
       rw[←hjx,htl]
       congr 1
       omega
     conv=>whnf
     rw[wrap_small j (by omega)]
     refine idxI hjl ?_
     conv=>whnf
     exact⟨[],[],_,_,_,t3,⟨_,_,_,_,_,_,_,_⟩,rfl,rfl,rfl⟩
    ·have hjl:j+1<c.nodes.length:=by
      rcases Nat.lt_or_ge (j+1) c.nodes.length with q|q
      ·exact q
      ·exfalso
       refine h4 ?_
       rw[←hjx,htl]
       congr 1
       omega
     conv=>whnf
     rw[wrap_small j (by omega)]
     refine idxI hjl ?_
     conv=>whnf
     exact⟨[],[],_,_,_,t3,⟨_,_,_,_,_,_,_,_⟩,rfl,rfl,rfl⟩
 ·rw[decide_eq_false h]at hr
  refine⟨[],[],_,_,_,_,hr,t3,cR ?_⟩
  conv=>whnf
  exact⟨[],[],_,_,_,t3,⟨_,_,_,_,_,_,_,_⟩,rfl,rfl,rfl⟩
end Go.M
namespace Go.M
open Go Go.Proofs
set_option maxRecDepth 100000
set_option maxHeartbeats 4000000
theorem bytesT (a b:List Int):VC E0 109 0 [.sl 1 (a.map encB1) false,.sl 1 (b.map encB1) false] [] TB:=by
 refine VC.enterR L0 (show E0.func 109=some Tryz.f109 by kernel_rfl) (fun _ _=>rfl) rfl rfl [] ?_
 conv=>whnf
 refine⟨a,rfl,?_⟩
 conv=>whnf
 refine⟨b,rfl,?_⟩
 conv=>whnf
 (first|refine⟨?_,?_⟩|refine nsplit ?_ ?_|refine bsplit ?_ ?_)<;>intro h<;>have hz_:=True.intro<;>clear hz_
 ·conv=>whnf
  exact⟨[],[],_,_,_,t3,_,rfl,rfl,rfl⟩
 ·conv=>whnf
  exact⟨[],[],_,_,_,t3,_,rfl,rfl,rfl⟩
theorem sameUT (u v:UpF):VC E0 108 0 [.agg (encUF u),.agg (encUF v)] [] TB:=by
 refine VC.enterR L0 (show E0.func 108=some Tryz.f108 by kernel_rfl) (fun _ _=>rfl) rfl rfl [] ?_
 conv=>whnf
 (first|refine⟨?_,?_⟩|refine nsplit ?_ ?_|refine bsplit ?_ ?_)<;>intro h0<;>have hz_:=True.intro<;>clear hz_
 ·conv=>whnf
  (first|refine⟨?_,?_⟩|refine nsplit ?_ ?_|refine bsplit ?_ ?_)<;>intro h1<;>have hz_:=True.intro<;>clear hz_
  ·conv=>whnf
   (first|refine⟨?_,?_⟩|refine nsplit ?_ ?_|refine bsplit ?_ ?_)<;>intro h2<;>have hz_:=True.intro<;>clear hz_
   ·conv=>whnf
    (first|refine⟨?_,?_⟩|refine nsplit ?_ ?_|refine bsplit ?_ ?_)<;>intro h3<;>have hz_:=True.intro<;>clear hz_
    ·conv=>whnf
     (first|refine⟨?_,?_⟩|refine nsplit ?_ ?_|refine bsplit ?_ ?_)<;>intro h4<;>have hz_:=True.intro<;>clear hz_
     ·conv=>whnf
      (first|refine⟨?_,?_⟩|refine nsplit ?_ ?_|refine bsplit ?_ ?_)<;>intro h5<;>have hz_:=True.intro<;>clear hz_
      ·conv=>whnf
       refine⟨[],[],_,_,_,_,bytesT u.data v.data,t3,?_⟩
       rintro r o' c' ⟨b,rfl,rfl,rfl⟩
       conv=>whnf
       exact⟨[],[],_,_,_,t3,_,rfl,rfl,rfl⟩
      ·conv=>whnf
       exact⟨[],[],_,_,_,t3,_,rfl,rfl,rfl⟩
     ·conv=>whnf
      exact⟨[],[],_,_,_,t3,_,rfl,rfl,rfl⟩
    ·conv=>whnf
     exact⟨[],[],_,_,_,t3,_,rfl,rfl,rfl⟩
   ·conv=>whnf
    exact⟨[],[],_,_,_,t3,_,rfl,rfl,rfl⟩
  ·conv=>whnf
   exact⟨[],[],_,_,_,t3,_,rfl,rfl,rfl⟩
 ·conv=>whnf
  exact⟨[],[],_,_,_,t3,_,rfl,rfl,rfl⟩
theorem equalVT (a b:List VoF) (ha:a.length<1000000):VC E0 106 0 [.sl 6 (a.map encVF) false,.sl 6 (b.map encVF) false] [] TB:=by
 refine VC.enterR L0 (show E0.func 106=some Tryz.f106 by kernel_rfl) (fun _ _=>rfl) rfl rfl [] ?_
 conv=>whnf
 (first|refine⟨?_,?_⟩|refine nsplit ?_ ?_|refine bsplit ?_ ?_)<;>intro h0<;>have hz_:=True.intro<;>clear hz_
 ·conv=>whnf
  exact⟨[],[],_,_,_,t3,_,rfl,rfl,rfl⟩
 ·have h0:a.length=b.length:=by have h0:¬((((a.map encVF).length:Nat):Int)≠(((b.map encVF).length:Nat):Int)):=h0
                                rw[List.length_map,List.length_map]at h0;omega
  conv=>whnf
  refine⟨fun k f o c=>∃i:Nat,i≤a.length∧k=a.length - i∧c=0∧f=[(0,.sl 6 (a.map encVF) false),(1,.sl 6 (b.map encVF) false),(12,.s (.int .i64 (a.map encVF).length)),(13,.s (.int .i64 i))]∧o=[],⟨a.length,?_⟩,?_⟩
  ·exact⟨[],[],_,_,_,t3,⟨0,Nat.zero_le _,rfl,rfl,rfl,rfl⟩⟩
  ·rintro k f1 o1 c1 ⟨i,hi,rfl,rfl,rfl,rfl⟩
   conv=>whnf
   (first|refine⟨?_,?_⟩|refine nsplit ?_ ?_|refine bsplit ?_ ?_)<;>intro h<;>have hz_:=True.intro<;>clear hz_
   ·have h:i<a.length:=lenlt.1 h
    ((conv=>whnf)<;>repeat(with_reducible refine D1 ?_)<;>conv=>whnf)
    refine idxI h ?_
    conv=>whnf
    refine idxI (show i<b.length by omega) ?_
    conv=>whnf
    (first|refine⟨?_,?_⟩|refine nsplit ?_ ?_|refine bsplit ?_ ?_)<;>intro hv<;>have hz_:=True.intro<;>clear hz_
    ·((conv=>whnf)<;>repeat(with_reducible refine D1 ?_)<;>conv=>whnf)
     exact⟨[],[],_,_,_,t3,_,rfl,rfl,rfl⟩
    ·((conv=>whnf)<;>repeat(with_reducible refine D1 ?_)<;>conv=>whnf)
     rw[wrap_small i (by omega)]
     refine⟨a.length - (i+1),?_,by omega⟩
     exact⟨[],[],_,_,_,t3,⟨i+1,h,rfl,rfl,rfl,rfl⟩⟩
   ·conv=>whnf
    exact⟨[],[],_,_,_,t3,_,rfl,rfl,rfl⟩
theorem equalIT (a b:List Int) (ha:a.length<1000000):VC E0 92 0 [.sl 1 (a.map encI1) false,.sl 1 (b.map encI1) false] [] TB:=by
 refine VC.enterR L0 (show E0.func 92=some Tryz.f92 by kernel_rfl) (fun _ _=>rfl) rfl rfl [] ?_
 conv=>whnf
 (first|refine⟨?_,?_⟩|refine nsplit ?_ ?_|refine bsplit ?_ ?_)<;>intro h0<;>have hz_:=True.intro<;>clear hz_
 ·conv=>whnf
  exact⟨[],[],_,_,_,t3,_,rfl,rfl,rfl⟩
 ·have h0:a.length=b.length:=by have h0:¬((((a.map encI1).length:Nat):Int)≠(((b.map encI1).length:Nat):Int)):=h0
                                rw[List.length_map,List.length_map]at h0;omega
  conv=>whnf
  refine⟨fun k f o c=>∃i:Nat,i≤a.length∧k=a.length - i∧c=0∧f=[(0,.sl 1 (a.map encI1) false),(1,.sl 1 (b.map encI1) false),(12,.s (.int .i64 (a.map encI1).length)),(13,.s (.int .i64 i))]∧o=[],⟨a.length,?_⟩,?_⟩
  ·exact⟨[],[],_,_,_,t3,⟨0,Nat.zero_le _,rfl,rfl,rfl,rfl⟩⟩
  ·rintro k f1 o1 c1 ⟨i,hi,rfl,rfl,rfl,rfl⟩
   conv=>whnf
   (first|refine⟨?_,?_⟩|refine nsplit ?_ ?_|refine bsplit ?_ ?_)<;>intro h<;>have hz_:=True.intro<;>clear hz_
   ·have h:i<a.length:=lenlt.1 h
    ((conv=>whnf)<;>repeat(with_reducible refine D1 ?_)<;>conv=>whnf)
    refine idxI h ?_
    conv=>whnf
    refine idxI (show i<b.length by omega) ?_
    conv=>whnf
    (first|refine⟨?_,?_⟩|refine nsplit ?_ ?_|refine bsplit ?_ ?_)<;>intro hv<;>have hz_:=True.intro<;>clear hz_
    ·((conv=>whnf)<;>repeat(with_reducible refine D1 ?_)<;>conv=>whnf)
     exact⟨[],[],_,_,_,t3,_,rfl,rfl,rfl⟩
    ·((conv=>whnf)<;>repeat(with_reducible refine D1 ?_)<;>conv=>whnf)
     rw[wrap_small i (by omega)]
     refine⟨a.length - (i+1),?_,by omega⟩
     exact⟨[],[],_,_,_,t3,⟨i+1,h,rfl,rfl,rfl,rfl⟩⟩
   ·conv=>whnf
    exact⟨[],[],_,_,_,t3,_,rfl,rfl,rfl⟩
theorem equalUT (a b:List UpF) (ha:a.length<1000000):VC E0 107 0 [.sl 7 (a.map encUF) false,.sl 7 (b.map encUF) false,.clo 108 [] []] [] TB:=by
 refine VC.enterR L0 (show E0.func 107=some Tryz.f107 by kernel_rfl) (fun _ _=>rfl) rfl rfl [] ?_
 conv=>whnf
 (first|refine⟨?_,?_⟩|refine nsplit ?_ ?_|refine bsplit ?_ ?_)<;>intro h0<;>have hz_:=True.intro<;>clear hz_
 ·conv=>whnf
  exact⟨[],[],_,_,_,t3,_,rfl,rfl,rfl⟩
 ·have h0:a.length=b.length:=by have h0:¬((((a.map encUF).length:Nat):Int)≠(((b.map encUF).length:Nat):Int)):=h0
                                rw[List.length_map,List.length_map]at h0;omega
  conv=>whnf
  refine⟨fun k f o c=>∃i:Nat,i≤a.length∧k=a.length - i∧c=0∧f=[(1,.sl 7 (b.map encUF) false),(2,.clo 108 [] []),(15,.sl 7 (a.map encUF) false),(16,.s (.int .i64 (a.map encUF).length)),(17,.s (.int .i64 i))]∧o=[],⟨a.length,?_⟩,?_⟩
  ·exact⟨[],[],_,_,_,t3,⟨0,Nat.zero_le _,rfl,rfl,rfl,rfl⟩⟩
  ·rintro k f1 o1 c1 ⟨i,hi,rfl,rfl,rfl,rfl⟩
   conv=>whnf
   (first|refine⟨?_,?_⟩|refine nsplit ?_ ?_|refine bsplit ?_ ?_)<;>intro h<;>have hz_:=True.intro<;>clear hz_
   ·have h:i<a.length:=lenlt.1 h
    conv=>whnf
    refine idxI h ?_
    conv=>whnf
    refine idxI (show i<b.length by omega) ?_
    conv=>whnf
    refine⟨[],[],_,_,_,_,sameUT a[i] (b[i]'(by omega)),t3,?_⟩
    rintro r o' c' ⟨q,rfl,rfl,rfl⟩
    cases q
    ·conv=>whnf
     exact⟨[],[],_,_,_,t3,_,rfl,rfl,rfl⟩
    ·conv=>whnf
     rw[wrap_small i (by omega)]
     refine⟨a.length - (i+1),?_,by omega⟩
     exact⟨[],[],_,_,_,t3,⟨i+1,h,rfl,rfl,rfl,rfl⟩⟩
   ·conv=>whnf
    exact⟨[],[],_,_,_,t3,_,rfl,rfl,rfl⟩
theorem sameFT (a b:CF) (ha:a.nodes.length<1000000):VC E0 42 0 [.agg (encCF a),.agg (encCF b)] [] TB:=by
 obtain⟨ac,ae,an,af,aj⟩:=a
 obtain⟨bc,be,bn,bf,bj⟩:=b
 refine VC.enterR L0 (show E0.func 42=some Tryz.f42 by kernel_rfl) (fun _ _=>rfl) rfl rfl [] ?_
 conv=>whnf
 (first|refine⟨?_,?_⟩|refine nsplit ?_ ?_|refine bsplit ?_ ?_)<;>intro h1<;>have hz_:=True.intro<;>clear hz_
 ·conv=>whnf
  (first|refine⟨?_,?_⟩|refine nsplit ?_ ?_|refine bsplit ?_ ?_)<;>intro h2<;>have hz_:=True.intro<;>clear hz_
  ·conv=>whnf
   cases hq:(af==bf)
   ·conv=>whnf
    exact⟨[],[],_,_,_,t3,_,rfl,rfl,rfl⟩
   ·conv=>whnf
    (first|refine⟨?_,?_⟩|refine nsplit ?_ ?_|refine bsplit ?_ ?_)<;>intro h4<;>have hz_:=True.intro<;>clear hz_
    ·conv=>whnf
     refine⟨[],[],_,_,_,_,equalIT an bn ha,t3,?_⟩
     rintro r o' c' ⟨q,rfl,rfl,rfl⟩
     conv=>whnf
     exact⟨[],[],_,_,_,t3,_,rfl,rfl,rfl⟩
    ·conv=>whnf
     exact⟨[],[],_,_,_,t3,_,rfl,rfl,rfl⟩
  ·conv=>whnf
   exact⟨[],[],_,_,_,t3,_,rfl,rfl,rfl⟩
 ·conv=>whnf
  exact⟨[],[],_,_,_,t3,_,rfl,rfl,rfl⟩
theorem sameLT (a b:LtF) (h1:a.votes.length<1000000) (h2:a.us.length<1000000) (h3:a.conf.nodes.length<1000000):VC E0 64 0 [.agg (encL a),.agg (encL b)] [] TB:=by
 refine VC.enterR L0 (show E0.func 64=some Tryz.f64 by kernel_rfl) (fun _ _=>rfl) rfl rfl [] ?_
 conv=>whnf
 (first|refine⟨?_,?_⟩|refine nsplit ?_ ?_|refine bsplit ?_ ?_)<;>intro w0<;>have hz_:=True.intro<;>clear hz_
 ·conv=>whnf
  exact⟨[],[],_,_,_,t3,_,rfl,rfl,rfl⟩
 ·conv=>whnf
  (first|refine⟨?_,?_⟩|refine nsplit ?_ ?_|refine bsplit ?_ ?_)<;>intro w1<;>have hz_:=True.intro<;>clear hz_
  ·conv=>whnf
   exact⟨[],[],_,_,_,t3,_,rfl,rfl,rfl⟩
  ·conv=>whnf
   (first|refine⟨?_,?_⟩|refine nsplit ?_ ?_|refine bsplit ?_ ?_)<;>intro w2<;>have hz_:=True.intro<;>clear hz_
   ·conv=>whnf
    exact⟨[],[],_,_,_,t3,_,rfl,rfl,rfl⟩
   ·conv=>whnf
    (first|refine⟨?_,?_⟩|refine nsplit ?_ ?_|refine bsplit ?_ ?_)<;>intro w3<;>have hz_:=True.intro<;>clear hz_
    ·conv=>whnf
     exact⟨[],[],_,_,_,t3,_,rfl,rfl,rfl⟩
    ·conv=>whnf
     (first|refine⟨?_,?_⟩|refine nsplit ?_ ?_|refine bsplit ?_ ?_)<;>intro w4<;>have hz_:=True.intro<;>clear hz_
     ·conv=>whnf
      exact⟨[],[],_,_,_,t3,_,rfl,rfl,rfl⟩
     ·conv=>whnf
      (first|refine⟨?_,?_⟩|refine nsplit ?_ ?_|refine bsplit ?_ ?_)<;>intro w5<;>have hz_:=True.intro<;>clear hz_
      ·conv=>whnf
       exact⟨[],[],_,_,_,t3,_,rfl,rfl,rfl⟩
      ·conv=>whnf
       (first|refine⟨?_,?_⟩|refine nsplit ?_ ?_|refine bsplit ?_ ?_)<;>intro w6<;>have hz_:=True.intro<;>clear hz_
       ·conv=>whnf
        exact⟨[],[],_,_,_,t3,_,rfl,rfl,rfl⟩
       ·conv=>whnf
        (first|refine⟨?_,?_⟩|refine nsplit ?_ ?_|refine bsplit ?_ ?_)<;>intro w7<;>have hz_:=True.intro<;>clear hz_
        ·conv=>whnf
         exact⟨[],[],_,_,_,t3,_,rfl,rfl,rfl⟩
        ·conv=>whnf
         (first|refine⟨?_,?_⟩|refine nsplit ?_ ?_|refine bsplit ?_ ?_)<;>intro w8<;>have hz_:=True.intro<;>clear hz_
         ·conv=>whnf
          exact⟨[],[],_,_,_,t3,_,rfl,rfl,rfl⟩
         ·conv=>whnf
          (first|refine⟨?_,?_⟩|refine nsplit ?_ ?_|refine bsplit ?_ ?_)<;>intro w9<;>have hz_:=True.intro<;>clear hz_
          ·conv=>whnf
           exact⟨[],[],_,_,_,t3,_,rfl,rfl,rfl⟩
          ·conv=>whnf
           (first|refine⟨?_,?_⟩|refine nsplit ?_ ?_|refine bsplit ?_ ?_)<;>intro w10<;>have hz_:=True.intro<;>clear hz_
           ·conv=>whnf
            exact⟨[],[],_,_,_,t3,_,rfl,rfl,rfl⟩
           ·conv=>whnf
            (first|refine⟨?_,?_⟩|refine nsplit ?_ ?_|refine bsplit ?_ ?_)<;>intro w11<;>have hz_:=True.intro<;>clear hz_
            ·conv=>whnf
             exact⟨[],[],_,_,_,t3,_,rfl,rfl,rfl⟩
            ·conv=>whnf
             (first|refine⟨?_,?_⟩|refine nsplit ?_ ?_|refine bsplit ?_ ?_)<;>intro w12<;>have hz_:=True.intro<;>clear hz_
             ·conv=>whnf
              exact⟨[],[],_,_,_,t3,_,rfl,rfl,rfl⟩
             ·conv=>whnf
              (first|refine⟨?_,?_⟩|refine nsplit ?_ ?_|refine bsplit ?_ ?_)<;>intro w13<;>have hz_:=True.intro<;>clear hz_
              ·conv=>whnf
               exact⟨[],[],_,_,_,t3,_,rfl,rfl,rfl⟩
              ·conv=>whnf
               refine⟨[],[],_,_,_,_,sameFT a.conf b.conf h3,t3,?_⟩
               rintro r o' c' ⟨b1,rfl,rfl,rfl⟩
               cases b1
               ·conv=>whnf
                exact⟨[],[],_,_,_,t3,_,rfl,rfl,rfl⟩
               ·conv=>whnf
                refine⟨[],[],_,_,_,_,equalVT a.votes b.votes h1,t3,?_⟩
                rintro r o' c' ⟨b1,rfl,rfl,rfl⟩
                cases b1
                ·conv=>whnf
                 exact⟨[],[],_,_,_,t3,_,rfl,rfl,rfl⟩
                ·conv=>whnf
                 refine⟨[],[],_,_,_,_,equalUT a.us b.us h2,t3,?_⟩
                 rintro r o' c' ⟨b1,rfl,rfl,rfl⟩
                 cases b1
                 ·conv=>whnf
                  exact⟨[],[],_,_,_,t3,_,rfl,rfl,rfl⟩
                 ·conv=>whnf
                  refine⟨[],[],_,_,_,_,bytesT a.data b.data,t3,?_⟩
                  rintro r o' c' ⟨b1,rfl,rfl,rfl⟩
                  conv=>whnf
                  exact⟨[],[],_,_,_,t3,_,rfl,rfl,rfl⟩
end Go.M
namespace Go.M
open Go Go.Proofs
set_option maxRecDepth 100000
set_option maxHeartbeats 4000000
theorem own_ok (c:CF) (hn:c.nodes.length<1000000):VC E0 153 0 [.agg (encCF c)] [] (RR (.agg (encCF c)) 0 []):=by
 refine VC.enterR L0 (show E0.func 153=some Tryz.f153 by kernel_rfl) (fun _ _=>rfl) rfl rfl [] ?_
 conv=>whnf
 refine⟨[],[],_,_,_,_,cloneI_ok c.nodes hn,t3,cR ?_⟩
 conv=>whnf
 exact⟨[2],[],_,_,_,t3,rfl,rfl,rfl⟩
@[reducible] def zCF:List TV:=[.s (.int .i64 0),.s (.int .u64 0),.sl 0 [] true,.s (.bool false),.s (.int .i64 0)]
def copyE (l:List CF) (j:Nat):List (List TV):=(l.take j).map encCF++List.replicate (l.length - j) zCF
theorem copyE_len (l:List CF) (j:Nat) (h:j≤l.length):(copyE l j).length=l.length:=by unfold copyE;simp;omega
theorem copyE_set (l:List CF) (j:Nat) (h:j<l.length):(copyE l j).set j (encCF l[j])=copyE l (j+1):=by
 unfold copyE
 have e:l.length - j=(l.length - (j+1))+1:=by omega
 have hlen:((l.take j).map encCF).length=j:=by rw[List.length_map,List.length_take];omega
 rw[e,List.replicate_succ,List.set_append,if_neg (by omega),hlen,Nat.sub_self,List.take_succ_eq_append_getElem h,List.map_append,List.append_assoc]
 rfl
theorem copyE_get (l:List CF) (j:Nat) (h:j<l.length):(copyE l j)[j]? =some zCF:=by
 unfold copyE
 have e:l.length - j=(l.length - (j+1))+1:=by omega
 have hlen:((l.take j).map encCF).length=j:=by rw[List.length_map,List.length_take];omega
 rw[e,List.replicate_succ,List.getElem?_append_right (by omega),hlen,Nat.sub_self]
 rfl
theorem copy_ok (l:List CF) (hl:l.length<10000) (hn:∀c∈l,c.nodes.length<1000000):VC E0 88 0 [.sl 5 (l.map encCF) false] [] (RR (.tk 0) 1 [(0,.arr 5 true (l.map encCF))]):=by
 refine VC.enterR L0 (show E0.func 88=some Tryz.f88 by kernel_rfl) (fun _ _=>rfl) rfl rfl [] ?_
 conv=>whnf
 refine⟨⟨by omega,by omega,by simp;omega⟩,?_⟩
 conv=>whnf
 refine⟨fun k f o c=>∃j:Nat,j≤l.length∧k=l.length - j∧c=1∧f=[(3,.tk 0),(9,.sl 5 (l.map encCF) false),(10,.s (.int .i64 l.length)),(11,.s (.int .i64 j))]∧o=[(0,.arr 5 true (copyE l j))],⟨l.length,?_⟩,?_⟩
 ·refine⟨[],[some 0],?_⟩
  iterate 3 constructor
  refine⟨⟨?_,?_,?_⟩,⟨0,Nat.zero_le _,rfl,rfl,rfl,rfl⟩⟩
  all_goals(repeat' first|exact LF|constructor)
  ·exact Lz.int (by rw[List.length_map])
  ·exact Lz.of (by simp[copyE];exact .inr rfl)
 ·rintro k f1 o1 c1 ⟨j,hj,rfl,rfl,rfl,rfl⟩
  conv=>whnf
  (first|refine⟨?_,?_⟩|refine nsplit ?_ ?_|refine bsplit ?_ ?_)<;>intro h<;>have hz_:=True.intro<;>clear hz_
  ·have h:j<l.length:=by have:(j:Int)<(l.length:Nat):=h
                         omega
   conv=>whnf
   refine idxI h ?_
   conv=>whnf
   refine⟨[],[],_,_,_,_,own_ok l[j] (hn _ (List.getElem_mem h)),t3,cR ?_⟩
   conv=>whnf
   refine⟨⟨by omega,by rw[copyE_len l j hj];omega⟩,?_⟩
   conv=>whnf
   refine⟨zCF,by rw[Int.toNat_natCast];exact copyE_get l j h,?_⟩
   conv=>whnf
   refine⟨l.length - (j+1),?_,by omega⟩
   refine⟨[],[some 0],?_⟩
   iterate 3 constructor
   refine⟨⟨?_,?_,?_⟩,⟨j+1,h,rfl,rfl,rfl,rfl⟩⟩
   all_goals(repeat' first|exact LF|constructor)
   exact Lz.of (by rw[Int.toNat_natCast];exact copyE_set l j h)
  ·have hj':j=l.length:=by have:¬(j:Int)<(l.length:Nat):=h
                           omega
   subst hj'
   have hc:copyE l l.length=l.map encCF:=by unfold copyE;simp
   rw[hc]
   conv=>whnf
   exact⟨[],[some 0],_,_,_,t3,rfl,rfl,rfl⟩
end Go.M
namespace Go.M
open Go Go.Proofs
set_option maxRecDepth 100000
set_option maxHeartbeats 4000000
@[reducible] def nilP:TV:=.s (.pointer none)
@[reducible] def tabZ:TO:=.cells [.s (.int .i64 0),.s (.int .u64 0),.s (.int .u64 0),.s (.int .i64 0),.s (.int .u64 0),.s (.int .i64 0),.s (.int .u64 0),.s (.int .u64 0),.s (.int .i64 0),.s (.int .u64 0),.s (.int .i64 0),.s (.int .u64 0),.s (.int .u64 0),.s (.int .i64 0),.s (.int .u64 0),.s (.int .i64 0),.s (.int .u64 0),.s (.int .u64 0),.s (.int .i64 0),.s (.int .u64 0),.s (.int .i64 0),.s (.int .u64 0),.s (.int .u64 0),.s (.int .i64 0),.s (.int .u64 0),.s (.int .i64 0),.s (.int .u64 0),.s (.int .u64 0),.s (.int .i64 0),.s (.int .u64 0)]
@[reducible] def mapZ:TO:=.maq (kIdx .u32) [] []
@[reducible] def stoZ (m t:Nat):TO:=.cells [.s (.int .u64 0),.mp m,.ptr t 0]
@[reducible] def winZ:TO:=.cells [.s (.int .u64 0),.s (.int .u64 0),.sl 0 [] true]
@[reducible] def comZ:TO:=.cells [.s (.int .u64 0),.s (.int .i64 0),.s (.int .i64 0),.sl 0 [] true]
theorem sessNew_ok:VC E0 96 0 [] [] (RR (.ptr 0 0) 1 [(0,tabZ)]):=by
 refine VC.enterR L0 (show E0.func 96=some Tryz.f96 by kernel_rfl) (fun _ _=>rfl) rfl rfl [] ?_
 conv=>whnf
 exact⟨[],[some 0],_,_,_,t3,rfl,rfl,rfl⟩
theorem storeNew_ok:VC E0 45 0 [] [] (RR (.ptr 0 0) 3 [(0,stoZ 1 2),(1,mapZ),(2,tabZ)]):=by
 refine VC.enterR L0 (show E0.func 45=some Tryz.f45 by kernel_rfl) (fun _ _=>rfl) rfl rfl [] ?_
 conv=>whnf
 refine⟨[],[],_,_,_,_,sessNew_ok,t3,cR ?_⟩
 conv=>whnf
 exact⟨[],[some 2,some 0,some 1],_,_,_,t3,rfl,rfl,rfl⟩
theorem winNew_ok:VC E0 46 0 [.s (.int .u64 0)] [] (RR (.ptr 0 0) 1 [(0,winZ)]):=by
 refine VC.enterR L0 (show E0.func 46=some Tryz.f46 by kernel_rfl) (fun _ _=>rfl) rfl rfl [] ?_
 conv=>whnf
 exact⟨[],[some 0],_,_,_,t3,rfl,rfl,rfl⟩
theorem winEnd_ok:VC E0 85 1 [.ptr 0 0] [(0,winZ)] (RR (.s (.int .u64 0)) 1 [(0,winZ)]):=by
 refine VC.enterR L0 (show E0.func 85=some Tryz.f85 by kernel_rfl) (fun _ _=>rfl) rfl rfl [] ?_
 ((conv=>whnf)<;>repeat(with_reducible refine D1 ?_)<;>conv=>whnf)
 exact⟨[],[some 0],_,_,_,t3,rfl,rfl,rfl⟩
theorem begin_ok:VC E0 47 0 [] [] (RR (.ptr 0 0) 1 [(0,comZ)]):=by
 refine VC.enterR L0 (show E0.func 47=some Tryz.f47 by kernel_rfl) (fun _ _=>rfl) rfl rfl [] ?_
 conv=>whnf
 exact⟨[],[some 0],_,_,_,t3,rfl,rfl,rfl⟩
theorem copy1_ok (c:CF) (hn:c.nodes.length<1000000):VC E0 88 0 [.sl 5 [encCF c] false] [] (RR (.tk 0) 1 [(0,.arr 5 true [encCF c])]):=
 copy_ok [c] (by show 1<10000;decide) (fun x hx=>by rw[List.mem_singleton.1 hx];exact hn)
@[reducible] def repT (s w m:Nat) (node:Int) (c:CF) (q:RoF) (op:Bool):TO:=.cells [.s (.int .i64 node),.s (.int .i64 c.chain),.s (.int .u64 c.epoch),.sl 1 (c.nodes.map encI1) false,.s (.bool c.fresh),.s (.int .i64 c.join),.s (.bool q.a),.s (.bool q.b),.s (.bool q.c),.s (.bool q.d),.s (.bool q.e),.s (.int .i64 q.f),.s (.int .i64 q.g),.s (.int .i64 q.h),.ptr s 0,.ptr w 0,.s (.int .u64 0),.s (.bool op),.s (.int .u64 0),.s (.bool false),nilP,.s (.int .i64 0),.ptr m 0,.sl 0 [] true]
@[reducible] def zRo:RoF:=⟨false,false,false,false,false,0,0,0⟩
@[reducible] def repO (node:Int) (c:CF) (q:RoF) (op:Bool):Ob:=[(0,repT 1 4 5 node c q op),(1,stoZ 2 3),(2,mapZ),(3,tabZ),(4,winZ),(5,comZ)]
@[reducible] def repO6 (node:Int) (c:CF) (q:RoF):Ob:=[(0,repT 1 4 6 node c q false),(1,stoZ 2 3),(2,mapZ),(3,tabZ),(4,winZ),(6,comZ)]
theorem set_ok (node:Int) (c:CF) (hn:c.nodes.length<1000000):VC E0 48 6 [.ptr 0 0,.agg (encCF c)] (repO node zCf zRo false) (fun r o c'=>∃q:RoF,r= .tup []∧c'=7∧o=repO6 node c q):=by
 have hro:=roleOf_ok c node
 have hcp:=copy1_ok c hn
 have hwe:=winEnd_ok
 have hbe:=begin_ok
 refine VC.enterR L0 (show E0.func 48=some Tryz.f48 by kernel_rfl) (fun _ _=>rfl) rfl rfl [] ?_
 conv=>whnf
 refine⟨[7],[],_,_,_,_,hcp,t3,cR ?_⟩
 conv=>whnf
 refine⟨⟨by decide,by show(0:Int)<1;decide⟩,?_⟩
 conv=>whnf
 refine⟨encCF c,rfl,?_⟩
 ((conv=>whnf)<;>repeat(with_reducible refine D1 ?_)<;>conv=>whnf)
 refine⟨[],[],_,_,_,_,hro,t3,?_⟩
 rintro r o' c' ⟨q,rfl,rfl,rfl⟩
 ((conv=>whnf)<;>repeat(with_reducible refine D1 ?_)<;>conv=>whnf)
 refine⟨[],[some 4],_,_,_,_,hwe,t3,cR ?_⟩
 conv=>whnf
 refine⟨[],[],_,_,_,_,hbe,t3,cR ?_⟩
 conv=>whnf
 exact⟨[],[some 0,some 1,some 2,some 3,some 4,some 5,some 10],_,_,_,t3,q,rfl,rfl,rfl⟩
def TNew (node:Int) (c:CF):TV→Ob→Nat→Prop:=fun r o c'=>(∃e:Int,e≠0∧r= .tup [nilP,.s (.int .i64 e)]∧c'=0∧o=[])∨
 (∃(d:CF) (q:RoF) (op:Bool),(d=zCf∨d=c)∧r= .tup [.ptr 0 0,.s (.int .i64 0)]∧c'=6∧o=repO node d q op)
theorem nodeT (n:Int):VC E0 43 0 [.s (.int .i64 n)] [] TB:=by
 refine VC.enterR L0 (show E0.func 43=some Tryz.f43 by kernel_rfl) (fun _ _=>rfl) rfl rfl [] ?_
 conv=>whnf
 repeat'(first|((first|(refine⟨fun h=>?_,fun h=>?_⟩)|(refine nsplit (fun h=>?_) (fun h=>?_))|(refine bsplit (fun h=>?_) (fun h=>?_)))<;>(conv=>whnf)))
 all_goals
  exact⟨[],[],_,_,_,t3,_,rfl,rfl,rfl⟩
theorem sameZT (c:CF) (hn:c.nodes.length<1000000):VC E0 42 0 [.agg (encCF c),.agg zCF] [] TB:=by
 have he:=equalIT c.nodes [] hn
 obtain⟨ac,ae,an,af,aj⟩:=c
 refine VC.enterR L0 (show E0.func 42=some Tryz.f42 by kernel_rfl) (fun _ _=>rfl) rfl rfl [] ?_
 conv=>whnf
 (first|refine⟨?_,?_⟩|refine nsplit ?_ ?_|refine bsplit ?_ ?_)<;>intro h1<;>have hz_:=True.intro<;>clear hz_
 ·conv=>whnf
  (first|refine⟨?_,?_⟩|refine nsplit ?_ ?_|refine bsplit ?_ ?_)<;>intro h2<;>have hz_:=True.intro<;>clear hz_
  ·conv=>whnf
   cases hq:(af==false)
   ·conv=>whnf
    exact⟨[],[],_,_,_,t3,_,rfl,rfl,rfl⟩
   ·conv=>whnf
    (first|refine⟨?_,?_⟩|refine nsplit ?_ ?_|refine bsplit ?_ ?_)<;>intro h4<;>have hz_:=True.intro<;>clear hz_
    ·conv=>whnf
     refine⟨[],[],_,_,_,_,he,t3,?_⟩
     rintro r o' c' ⟨q,rfl,rfl,rfl⟩
     conv=>whnf
     exact⟨[],[],_,_,_,t3,_,rfl,rfl,rfl⟩
    ·conv=>whnf
     exact⟨[],[],_,_,_,t3,_,rfl,rfl,rfl⟩
  ·conv=>whnf
   exact⟨[],[],_,_,_,t3,_,rfl,rfl,rfl⟩
 ·conv=>whnf
  exact⟨[],[],_,_,_,t3,_,rfl,rfl,rfl⟩
end Go.M
namespace Go.M
open Go Go.Proofs
set_option maxRecDepth 100000
set_option maxHeartbeats 4000000
theorem repNew_ok (node:Int) (c:CF) (hn:c.nodes.length<1000000):VC E0 17 0 [.s (.int .i64 node),.agg (encCF c)] [] (TNew node c):=by
 have hs:=sameZT c hn
 have hno:=nodeT node
 have hro:=roleOf_ok c node
 have hset:=set_ok node c hn
 obtain⟨ch,ep,no,fr,jo⟩:=c
 refine VC.enterR L0 (show E0.func 17=some Tryz.f17 by kernel_rfl) (fun _ _=>rfl) rfl rfl [] ?_
 conv=>whnf
 refine⟨[],[],_,_,_,_,hs,t3,?_⟩
 rintro r o' c' ⟨b,rfl,rfl,rfl⟩
 conv=>whnf
 refine⟨[],[],_,_,_,_,hno,t3,?_⟩
 rintro r o' c' ⟨b2,rfl,rfl,rfl⟩
 cases b2
 ·conv=>whnf
  exact⟨[],[],_,_,_,t3,.inl ⟨_,by decide,rfl,rfl,rfl⟩⟩
 conv=>whnf
 cases b
 ·conv=>whnf
  refine⟨[],[],_,_,_,_,hro,t3,?_⟩
  rintro r o' c' ⟨⟨qa,qb,qc,qd,qe,qf,qg,qh⟩,rfl,rfl,rfl⟩
  cases qa
  ·conv=>whnf
   exact⟨[],[],_,_,_,t3,.inl ⟨_,by decide,rfl,rfl,rfl⟩⟩
  conv=>whnf
  cases fr
  ·conv=>whnf
   refine⟨[],[],_,_,_,_,storeNew_ok,t3,cR ?_⟩
   conv=>whnf
   refine⟨[],[],_,_,_,_,winNew_ok,t3,cR ?_⟩
   conv=>whnf
   refine⟨[],[],_,_,_,_,begin_ok,t3,cR ?_⟩
   conv=>whnf
   refine⟨[],[some 6,some 1,some 2,some 3,some 4,some 5],_,_,_,_,hset,t3,?_⟩
   rintro r o' c' ⟨q,rfl,rfl,rfl⟩
   conv=>whnf
   exact⟨[],[some 6,some 1,some 2,some 3,some 4,some 13],_,_,_,t3,.inr ⟨⟨ch,ep,no,false,jo⟩,q,true,.inr rfl,rfl,rfl,rfl⟩⟩
  ·conv=>whnf
   exact⟨[],[],_,_,_,t3,.inl ⟨_,by decide,rfl,rfl,rfl⟩⟩
 ·conv=>whnf
  refine⟨[],[],_,_,_,_,storeNew_ok,t3,cR ?_⟩
  conv=>whnf
  refine⟨[],[],_,_,_,_,winNew_ok,t3,cR ?_⟩
  conv=>whnf
  refine⟨[],[],_,_,_,_,begin_ok,t3,cR ?_⟩
  conv=>whnf
  exact⟨[],[some 6,some 1,some 2,some 3,some 4,some 5],_,_,_,t3,.inr ⟨zCf,zRo,false,.inl rfl,rfl,rfl,rfl⟩⟩
end Go.M
namespace Go.M
open Go Go.Proofs
set_option maxRecDepth 100000
set_option maxHeartbeats 4000000
@[reducible] def nS:TV:=.sl 0 [] true
@[reducible] def readsZ:TO:=.cells [.s (.int .u64 0),nS]
@[reducible] def srvT (x y:Nat) (node:Int):TO:=.cells [.s (.int .i64 node),.s (.int .i64 3),.s (.int .i64 0),.ptr x 0,.ptr y 0]
theorem readsNew_ok:VC E0 18 0 [] [] (RR (.ptr 0 0) 1 [(0,readsZ)]):=by
 refine VC.enterR L0 (show E0.func 18=some Tryz.f18 by kernel_rfl) (fun _ _=>rfl) rfl rfl [] ?_
 conv=>whnf
 exact⟨[],[some 0],_,_,_,t3,rfl,rfl,rfl⟩
@[reducible] def srvO (node:Int) (d:CF) (q:RoF) (op:Bool):Ob:=[(0,srvT 1 7 node),(1,repT 2 5 6 node d q op),(2,stoZ 3 4),(3,mapZ),(4,tabZ),(5,winZ),(6,comZ),(7,readsZ)]
def TSrv (node:Int) (c:CF):TV→Ob→Nat→Prop:=fun r o c'=>(∃e:Int,e≠0∧r= .tup [nilP,.s (.int .i64 e)]∧c'=0∧o=[])∨
 (∃(d:CF) (q:RoF) (op:Bool),(d=zCf∨d=c)∧r= .tup [.ptr 0 0,.s (.int .i64 0)]∧c'=8∧o=srvO node d q op)
theorem srvNew_ok (node:Int) (c:CF) (hn:c.nodes.length<1000000):VC E0 6 0 [.s (.int .i64 node),.s (.int .i64 3),.agg (encCF c)] [] (TSrv node c):=by
 have hr:=repNew_ok node c hn
 refine VC.enterR L0 (show E0.func 6=some Tryz.f6 by kernel_rfl) (fun _ _=>rfl) rfl rfl [] ?_
 conv=>whnf
 repeat((first|(refine⟨fun h_=>?_,fun h_=>?_⟩)|(refine nsplit (fun h_=>?_) (fun h_=>?_))|(refine bsplit (fun h_=>?_) (fun h_=>?_)))<;>first|(exfalso;revert h_;decide;done)|(exact absurd rfl h_)|(have hz_:=True.intro;clear hz_;(conv=>whnf)))
 refine⟨[],[],_,_,_,_,hr,t3,?_⟩
 rintro r o' c' (⟨e,he,rfl,rfl,rfl⟩|⟨d,q,op,hd,rfl,rfl,rfl⟩)
 ·conv=>whnf
  (first|refine⟨?_,?_⟩|refine nsplit ?_ ?_|refine bsplit ?_ ?_)<;>intro h0<;>have hz_:=True.intro<;>clear hz_
  ·conv=>whnf
   exact⟨[],[],_,_,_,t3,.inl ⟨_,he,rfl,rfl,rfl⟩⟩
  ·exact absurd he h0
 ·conv=>whnf
  repeat((first|(refine⟨fun h_=>?_,fun h_=>?_⟩)|(refine nsplit (fun h_=>?_) (fun h_=>?_))|(refine bsplit (fun h_=>?_) (fun h_=>?_)))<;>first|(exfalso;revert h_;decide;done)|(exact absurd rfl h_)|(have hz_:=True.intro;clear hz_;(conv=>whnf)))
  refine⟨[],[],_,_,_,_,readsNew_ok,t3,cR ?_⟩
  conv=>whnf
  exact⟨[],[some 8,some 1,some 2,some 3,some 4,some 5,some 6,some 7],_,_,_,t3,.inr ⟨d,q,op,hd,rfl,rfl,rfl⟩⟩
theorem srvRep_ok (node:Int) (d:CF) (q:RoF) (op:Bool):VC E0 7 8 [.ptr 0 0] (srvO node d q op) (RR (.ptr 1 0) 8 (srvO node d q op)):=by
 refine VC.enterR L0 (show E0.func 7=some Tryz.f7 by kernel_rfl) (fun _ _=>rfl) rfl rfl [] ?_
 conv=>whnf
 exact⟨[],[some 0,some 1,some 2,some 3,some 4,some 5,some 6,some 7],_,_,_,t3,rfl,rfl,rfl⟩
theorem repSto_ok (node:Int) (d:CF) (q:RoF) (op:Bool):VC E0 8 6 [.ptr 0 0] (repO node d q op) (RR (.ptr 1 0) 6 (repO node d q op)):=by
 refine VC.enterR L0 (show E0.func 8=some Tryz.f8 by kernel_rfl) (fun _ _=>rfl) rfl rfl [] ?_
 conv=>whnf
 exact⟨[],[some 0,some 1,some 2,some 3,some 4,some 5],_,_,_,t3,rfl,rfl,rfl⟩
theorem repGot_ok (node:Int) (d:CF) (q:RoF) (op:Bool):VC E0 10 6 [.ptr 0 0] (repO node d q op) (RR (.tup [.s (.int .u64 0),.s (.bool false)]) 6 (repO node d q op)):=by
 refine VC.enterR L0 (show E0.func 10=some Tryz.f10 by kernel_rfl) (fun _ _=>rfl) rfl rfl [] ?_
 ((conv=>whnf)<;>repeat(with_reducible refine D1 ?_)<;>conv=>whnf)
 exact⟨[],[some 0,some 1,some 2,some 3,some 4,some 5],_,_,_,t3,rfl,rfl,rfl⟩
theorem repConf_ok (node:Int) (d:CF) (q:RoF) (op:Bool) (hn:d.nodes.length<1000000):VC E0 35 6 [.ptr 0 0] (repO node d q op) (RR (.agg (encCF d)) 6 (repO node d q op)):=by
 have hc:=copy1_ok d hn
 refine VC.enterR L0 (show E0.func 35=some Tryz.f35 by kernel_rfl) (fun _ _=>rfl) rfl rfl [] ?_
 conv=>whnf
 refine⟨[7],[],_,_,_,_,hc,t3,cR ?_⟩
 conv=>whnf
 refine⟨⟨by decide,by show(0:Int)<1;decide⟩,?_⟩
 conv=>whnf
 refine⟨encCF d,rfl,?_⟩
 conv=>whnf
 exact⟨[],[some 0,some 1,some 2,some 3,some 4,some 5],_,_,_,t3,rfl,rfl,rfl⟩
theorem cloneR0:VC E0 83 0 [nS] [] (RR nS 0 []):=by
 refine VC.enterR L0 (show E0.func 83=some Tryz.f83 by kernel_rfl) (fun _ _=>rfl) rfl rfl [] ?_
 conv=>whnf
 exact⟨[],[],_,_,_,t3,rfl,rfl,rfl⟩
theorem readsList_ok:VC E0 33 1 [.ptr 0 0] [(0,readsZ)] (RR nS 1 [(0,readsZ)]):=by
 refine VC.enterR L0 (show E0.func 33=some Tryz.f33 by kernel_rfl) (fun _ _=>rfl) rfl rfl [] ?_
 conv=>whnf
 refine⟨[],[],_,_,_,_,cloneR0,t3,cR ?_⟩
 conv=>whnf
 exact⟨[],[some 0],_,_,_,t3,rfl,rfl,rfl⟩
theorem srvReads_ok (node:Int) (d:CF) (q:RoF) (op:Bool):VC E0 13 8 [.ptr 0 0] (srvO node d q op) (RR nS 8 (srvO node d q op)):=by
 refine VC.enterR L0 (show E0.func 13=some Tryz.f13 by kernel_rfl) (fun _ _=>rfl) rfl rfl [] ?_
 conv=>whnf
 refine⟨[],[some 7],_,_,_,_,readsList_ok,t3,cR ?_⟩
 conv=>whnf
 exact⟨[],[some 0,some 1,some 2,some 3,some 4,some 5,some 6,some 7],_,_,_,t3,rfl,rfl,rfl⟩
end Go.M
