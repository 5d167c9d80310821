/-
  Part 4 of the library that the proof leans on.
-/
import Derived.Test.YtjeejiegdkojdaaGreatDoorL3
import Derived.Carry
import Derived.OpenShut
import Derived.KernelRfl
import Derived.WalkKit
import Derived.ProofKit
namespace Go.M
open Go
structure GQ (ops:List Oper) (hs:Nat→ab) (lg:Nat→dZ):Prop where
 kind:∀j,j<ops.length→(lg j= .pure∧hs (j+1)=hs j)∨(∃q,lg j= .rd q (hs j)∧hs (j+1)=hs j∧q.dw<(hs j).size)∨
  (∃md:Made,lg j= .alloc (hs j) (hs (j+1))∧hs (j+1)=(hs j).push (md.obj (hs j).size))∨(lg j= .du (hs j) (hs (j+1))∧(hs j).size≤(hs (j+1)).size)
 pass:∀i j,i<j→j<ops.length→aX (db ops []) i (lg i) j (lg j)=true
def Al (ops:List Oper) (hs:Nat→ab) (lg:Nat→dZ) (j:Nat) (md:Made):Prop:=
 j<ops.length∧lg j= .alloc (hs j) (hs (j+1))∧hs (j+1)=(hs j).push (md.obj (hs j).size)
section
variable {E:Env} {base B:Nat} {ops:List Oper} {hs:Nat→ab} {lg:Nat→dZ}
theorem GQ.step (X:GQ ops hs lg) {j:Nat} (hj:j<ops.length):(hs j).size≤(hs (j+1)).size:=by
 rcases X.kind j hj with⟨_,h⟩|⟨q,_,h,_⟩|⟨md,_,h⟩|⟨_,h⟩
 ·rw[h];exact Nat.le_refl _
 ·rw[h];exact Nat.le_refl _
 ·rw[h,ab.size_push];omega
 ·exact h
theorem GQ.mono (X:GQ ops hs lg) {i:Nat}:∀{j:Nat},i≤j→j≤ops.length→(hs i).size≤(hs j).size:=by
 intro j
 induction j with
 |zero=>intro h _;rw[Nat.le_zero.1 h];exact Nat.le_refl _
 |succ j ih=>
  intro h hj;by_cases e:i=j+1
  ·subst e;exact Nat.le_refl _
  ·exact Nat.le_trans (ih om om) (X.step om)
theorem Al.size {j:Nat} {md:Made} (h:Al ops hs lg j md):(hs (j+1)).size=(hs j).size+1:=by rw[h.2.2];rfl
theorem Al.inj (X:GQ ops hs lg) {i j:Nat} {md zu:Made} (h:Al ops hs lg i md) (k:Al ops hs lg j zu) (e:(hs i).size=(hs j).size):i=j:=by
 rcases Nat.lt_trichotomy i j with hl|hl|hl
 ·have:=X.mono (i:=i+1) (j:=j) hl (by have:=k.1;omega);rw[h.size]at this;omega
 ·exact hl
 ·have:=X.mono (i:=j+1) (j:=i) hl (by have:=h.1;omega);rw[k.size]at this;omega
theorem uk (md:Made) (b:Nat):∀cs f cA aQ,md.obj b= .cells cs f cA aQ→f=b∧cA=b:=by
 intro cs f cA aQ h;cases md<;>simp[Made.obj]at h;exact⟨h.2.1.symm,h.2.2.1.symm⟩
theorem GQ.chain (X:GQ ops hs lg) {q:RQ} {lo:Nat} (hb:q.dw<(hs lo).size):∀{hi:Nat},lo≤hi→hi≤ops.length→
 (∀i,lo≤i→i<hi→((lg i= .du (hs i) (hs (i+1)))→fE (hs i) (hs (i+1)) q=true)∧((lg i= .alloc (hs i) (hs (i+1)))→qW (hs i) q=true))→q.run (hs hi)=q.run (hs lo):=by
 intro hi
 induction hi with
 |zero=>intro h _ _;rw[Nat.le_zero.1 h]
 |succ k ih=>
  intro h hk sC;by_cases e:lo=k+1
  ·subst e;rfl
  ·have h1:=ih om om fun i hi1 Zk=>sC i hi1 om;rw[←h1];have hbk:q.dw<(hs k).size:=Nat.lt_of_lt_of_le hb (X.mono om om);rcases X.kind k om with⟨_,h⟩|⟨q',_,h,_⟩|⟨md,h,h'⟩|⟨h,_⟩
   ·rw[h]
   ·rw[h]
   ·rw[h'];exact NN ((sC k om om).2 h) hbk
   ·exact GP ((sC k om om).1 h) hbk
structure Core (E:Env) (base B:Nat) (ops:List Oper) (hs:Nat→ab) (lg:Nat→dZ) (jz:bn) (w0:World) (c:Nat) (L:Nat→Bool) (μ:bn) (w:World):Prop where
 cN:c≤ops.length
 DV:∀j h h',j<ops.length→lg j= .du h h'→(L j=true↔j<c)
 rel:bh E base B (cut μ (hs c).size) (hs c) w
 QP:jz.le μ
 grow:Grow base jz w0 w
 new:∀b m,jz b=none→μ b=some m→(hs 0).size≤b∧base≤b∧(w0.heap.size≤m.r∨∃b0 m0,base≤b0∧jz b0=some m0∧m0.r=m.r)
 Gy:∀b,b<(hs 0).size→jz b=none→(hs c).get b=(hs 0).get b
 late:∀j md,j<c→Al ops hs lg j md→L j=false→μ (hs j).size=none∧(hs c).get (hs j).size=some (md.obj (hs j).size)
 bo:∀j md,c≤j→Al ops hs lg j md→L j=true→∃m,μ (hs j).size=some m
 xo:∀b m,(hs c).size≤b→μ b=some m→∃j md o',c≤j∧L j=true∧Al ops hs lg j md∧b=(hs j).size∧w.heap[m.r]? =some o'∧(w0.heap.size≤m.r∧m.s=0)∧
  ∀aU h b',(cut μ (hs j).size).le aU→iX aU h base b' m (md.obj b') o'
 apart:∀b1 b2 m1 m2,(hs c).size≤b1→μ b1=some m1→μ b2=some m2→m1.r=m2.r→b1=b2
def rD (L:Nat→Bool) (k:Nat):Nat→Bool:=fun j=>if j=k then true else L j
theorem pZ (L:Nat→Bool) (k:Nat):rD L k k=true:=by simp[rD]
theorem g9 {L:Nat→Bool} {k j:Nat} (h:j≠k):rD L k j=L j:=by simp[rD,h]
theorem nP {L:Nat→Bool} {k j:Nat} (h:L j=true):rD L k j=true:=by unfold rD;split<;>simp[h]
variable {jz:bn} {w0:World} {c:Nat} {L:Nat→Bool} {μ:bn} {w:World}
theorem Core.go (X:GQ ops hs lg) (C:Core E base B ops hs lg jz w0 c L μ w) (hc:c<ops.length) (bc:∀h h',lg c≠ .du h h') (hB:B≤w0.heap.size) (wU:base≤(hs 0).size):Core E base B ops hs lg jz w0 (c+1) L μ w:=by
 have Zy:∀j h h',j<ops.length→lg j= .du h h'→(L j=true↔j<c+1):=fun j h h' hj hl=>by
  rw[C.DV j h h' hj hl];constructor
  ·intro h;omega
  ·intro h1;have:j≠c:=fun e=>by subst e;exact bc _ _ hl
   omega
 have same:hs (c+1)=hs c→(∀md,¬Al ops hs lg c md)→Core E base B ops hs lg jz w0 (c+1) L μ w:=by
  intro e Gl;refine⟨hc,Zy,by rw[e];exact C.rel,C.QP,C.grow,C.new,by rw[e];exact C.Gy,?_,?_,?_,by rw[e];exact C.apart⟩
  ·intro j md hj cW hl;rw[e];have:j≠c:=fun h=>by subst h;exact Gl _ cW
   exact C.late j md om cW hl
  ·intro j md hj;exact C.bo j md om
  ·rw[e];intro b m hb hm;obtain⟨j,md,o',k1,k2,k3,k4⟩:=C.xo b m hb hm;have:j≠c:=fun h=>by subst h;exact Gl _ k3
   exact⟨j,md,o',om,k2,k3,k4⟩
 rcases X.kind c hc with⟨h1,h2⟩|⟨q,h1,h2,_⟩|⟨md,h1,h2⟩|⟨h1,_⟩
 ·exact same h2 fun md ha=>by have:=ha.2.1;rw[h1]at this;cases this
 ·exact same h2 fun md ha=>by have:=ha.2.1;rw[h1]at this;cases this
 ·have cW:Al ops hs lg c md:=⟨hc,h1,h2⟩;have fL:=cW.size;have wV:=X.mono (i:=0) (j:=c) (Nat.zero_le _) C.cN;have jd:=uk md (hs c).size;have Hp:bh E base B (cut μ (hs c).size) (hs (c+1)) w:=by rw[h2];exact C.rel.NL fun cs f cA aQ e=>(jd cs f cA aQ e).1
  have dK:(hs (c+1)).get (hs c).size=some (md.obj (hs c).size):=by rw[h2,ab.aq,if_pos rfl]
  have hold:∀b,b<(hs c).size→(hs (c+1)).get b=(hs c).get b:=fun b hb=>by rw[h2,ab.aq,if_neg om]
  have oZ:bh E base B (cut μ (hs (c+1)).size) (hs (c+1)) w:=by
   cases hm:μ (hs c).size with
   |none=>
    have e:cut μ (hs (c+1)).size=cut μ (hs c).size:=by
     funext b
     unfold cut;by_cases e1:b<(hs c).size
     ·rw[if_pos e1,if_pos om]
     ·rw[if_neg e1];split
      ·have:b=(hs c).size:=by omega
       rw[this];exact hm
      ·rfl
    rw[e];exact Hp
   |some m=>
    have e:cut μ (hs (c+1)).size=kN (cut μ (hs c).size) (hs c).size m:=by
     funext b
     unfold cut kN;by_cases e1:b=(hs c).size
     ·subst e1;rw[if_pos om,if_pos rfl,hm]
     ·rw[if_neg e1];show _=if b<(hs c).size then μ b else none
      by_cases e2:b<(hs c).size
      ·rw[if_pos e2,if_pos om]
      ·rw[if_neg e2,if_neg om]
    obtain⟨j,zu,o',k1,k2,k3,k4,k5,k6,k7⟩:=C.xo _ m (Nat.le_refl _) hm;have hjc:j=c:=(Al.inj X cW k3 k4).symm;subst hjc;have hmd:zu.obj (hs j).size=md.obj (hs j).size:=by
     have h3:=k3.2.2;have:(hs (j+1)).get (hs j).size=some (zu.obj (hs j).size):=by rw[h3,ab.aq,if_pos rfl]
     rw[dK]at this;exact(Option.some.inj this).symm
    rw[e];refine Hp.IU om dK (by unfold cut;rw[if_neg om]) om om k5 ?_ (fun cs f cA aQ e=>⟨(jd cs f cA aQ e).1,Nat.le_of_eq (jd cs f cA aQ e).2.symm⟩) (fun _ _ _=>k6.2) ?_
    ·intro d md2 hd he;have VZ:=dE.1 hd;have:=C.apart _ _ _ _ (Nat.le_refl _) hm VZ.2 he.symm;omega
    ·rw[←hmd];exact k7 _ _ _ (by
      rw[←e];exact gP μ.le_refl om)
  refine⟨hc,Zy,oZ,C.QP,C.grow,C.new,?_,?_,?_,?_,?_⟩
  ·intro b hb h0;rw[hold b om];exact C.Gy b hb h0
  ·intro j zu hj ha hl;by_cases e:j=c
   ·subst e;have hmd:zu.obj (hs j).size=md.obj (hs j).size:=by
     have h3:=ha.2.2;have:(hs (j+1)).get (hs j).size=some (zu.obj (hs j).size):=by rw[h3,ab.aq,if_pos rfl]
     rw[dK]at this;exact(Option.some.inj this).symm
    refine⟨?_,by rw[hmd];exact dK⟩;cases hm:μ (hs j).size with
    |none=>rfl
    |some m=>
     obtain⟨j',md2,o',k1,k2,k3,k4,_⟩:=C.xo _ m (Nat.le_refl _) hm;have:j'=j:=(Al.inj X cW k3 k4).symm;subst this;rw[hl]at k2;cases k2
   ·obtain⟨q1,q2⟩:=C.late j zu om ha hl;have hjs:(hs j).size<(hs c).size:=by
     have:=X.mono (i:=j+1) (j:=c) om C.cN;rw[ha.size]at this;omega
    exact⟨q1,by rw[hold _ hjs];exact q2⟩
  ·intro j zu hj;exact C.bo j zu om
  ·intro b m hb hm;obtain⟨j,zu,o',k1,k2,k3,k4,k5⟩:=C.xo b m om hm;have:j≠c:=fun h=>by subst h;omega
   exact⟨j,zu,o',om,k2,k3,k4,k5⟩
  ·intro b1 b2 m1 m2 oB;exact C.apart b1 b2 m1 m2 om
 ·exact absurd h1 (bc _ _)
theorem Core.V0 (X:GQ ops hs lg) (hB:B≤w0.heap.size) (wU:base≤(hs 0).size):∀(n:Nat) {c:Nat},Core E base B ops hs lg jz w0 c L μ w→c+n≤ops.length→(∀i,c≤i→i<c+n→∀h h',lg i≠ .du h h')→Core E base B ops hs lg jz w0 (c+n) L μ w
 |0,c,C,_,_=>C
 |n+1,c,C,hn,bc=>by
  have:=Core.V0 X hB wU n (c:=c+1) (C.go X om (bc c (Nat.le_refl _) om) hB wU) om (fun i h1 h2=>bc i om om);rw[show c+(n+1)=c+1+n by omega];exact this
theorem Core.DW (C:Core E base B ops hs lg jz w0 c L μ w) {k:Nat} (h1:∀h h',lg k≠ .du h h') (h2:∀h h',lg k≠ .alloc h h'):Core E base B ops hs lg jz w0 c (rD L k) μ w:=by
 have cW:∀{j md},Al ops hs lg j md→j≠k:=fun ha e=>by subst e;exact h2 _ _ ha.2.1
 refine⟨C.cN,?_,C.rel,C.QP,C.grow,C.new,C.Gy,?_,?_,?_,C.apart⟩
 ·intro j h h' hj hl;rw[g9 (fun e=>by subst e;exact h1 _ _ hl)];exact C.DV j h h' hj hl
 ·intro j md hj ha hl;rw[g9 (cW ha)]at hl;exact C.late j md hj ha hl
 ·intro j md hj ha hl;rw[g9 (cW ha)]at hl;exact C.bo j md hj ha hl
 ·intro b m hb hm;obtain⟨j,md,o',k1,k2,k3⟩:=C.xo b m hb hm;exact⟨j,md,o',k1,nP k2,k3⟩
end
section
variable {E:Env} {base B:Nat} {ops:List Oper} {hs:Nat→ab} {lg:Nat→dZ}
variable {jz:bn} {w0:World} {c:Nat} {L:Nat→Bool} {μ:bn} {w w':World}
theorem Core.lt (C:Core E base B ops hs lg jz w0 c L μ w) {b:Nat} {m:MT} (hm:μ b=some m):m.r<w.heap.size:=by
 by_cases hb:b<(hs c).size
 ·exact C.rel.lt (dE.2 ⟨hb,hm⟩)
 ·obtain⟨j,md,o',_,_,_,_,k5,_⟩:=C.xo b m om hm;exact(Array.getElem?_eq_some_iff.1 k5).1
theorem Core.alloc (X:GQ ops hs lg) (C:Core E base B ops hs lg jz w0 c L μ w) (hB:B≤w0.heap.size) (wU:base≤(hs 0).size) {k:Nat} {md:Made} (ha:Al ops hs lg k md) (hk:L k=false) {o':Obj} (hw:DC w o' w') {n:Nat}
 (B7:∀aU h b',(cut μ (max (hs k).size (hs c).size)).le aU→iX aU h base b' ⟨w.heap.size,0,n⟩ (md.obj b') o'):
 μ.le (kN μ (hs k).size ⟨w.heap.size,0,n⟩)∧Core E base B ops hs lg jz w0 c (rD L k) (kN μ (hs k).size ⟨w.heap.size,0,n⟩) w':=by
 have fL:=ha.size;have wV:=X.mono (i:=0) (j:=k) (Nat.zero_le _) (by have:=ha.1;omega);have wo:∀{j:Nat} {zu:Made},Al ops hs lg j zu→(hs c).size≤(hs j).size→c≤j:=by
  intro j zu hj hle;by_cases h:c≤j
  ·exact h
  ·have:=X.mono (i:=j+1) (j:=c) om C.cN;rw[hj.size]at this;omega
 have Zz:μ (hs k).size=none:=by
  by_cases hkc:k<c
  ·exact(C.late k md hkc ha hk).1
  ·cases hm:μ (hs k).size with
   |none=>rfl
   |some m=>
    obtain⟨j,zu,o2,k1,k2,k3,k4,_⟩:=C.xo _ m (X.mono om (by have:=ha.1;omega)) hm;have:k=j:=Al.inj X ha k3 k4;subst this;rw[hk]at k2;cases k2
 have hle:μ.le (kN μ (hs k).size ⟨w.heap.size,0,n⟩):=gA Zz;have lr:∀{d:Nat} {md:MT},kN μ (hs k).size ⟨w.heap.size,0,n⟩ d=some md→(d=(hs k).size∧md=⟨w.heap.size,0,n⟩)∨(d≠(hs k).size∧μ d=some md):=by
  intro d md hd;by_cases e:d=(hs k).size
  ·subst e;rw[bN]at hd;cases hd;exact .inl ⟨rfl,rfl⟩
  ·rw[o5 _ _ e]at hd;exact .inr ⟨e,hd⟩
 have hgw:=C.grow.size;have vj:∀r,r<w.heap.size→w'.heap[r]? =w.heap[r]? :=fun r hr=>by rw[hw.get,if_neg om]
 have jd:w'.heap[w.heap.size]? =some o':=by rw[hw.get,if_pos rfl]
 refine⟨hle,C.cN,?_,?_,bn.le_trans C.QP hle,?_,?_,C.Gy,?_,?_,?_,?_⟩
 ·intro j h h' hj hl;rw[g9 (fun e=>by subst e;have:=ha.2.1;rw[hl]at this;cases this)];exact C.DV j h h' hj hl
 ·by_cases hkc:k<c
  ·have Ac:(hs k).size<(hs c).size:=by
    have:=X.mono (i:=k+1) (j:=c) om C.cN;omega
   have e:cut (kN μ (hs k).size ⟨w.heap.size,0,n⟩) (hs c).size=kN (cut μ (hs c).size) (hs k).size ⟨w.heap.size,0,n⟩:=by
    funext b
    unfold cut kN;by_cases e1:b=(hs k).size
    ·subst e1;rw[if_pos Ac];simp
    ·rw[if_neg e1];rw[if_neg e1]
   obtain⟨q1,q2⟩:=C.late k md hkc ha hk;have Gd:max (hs k).size (hs c).size=(hs c).size:=Nat.max_eq_right om;rw[e];refine(C.rel.alc hw).IU Ac q2 (by unfold cut;rw[if_pos Ac];exact q1) om (by show B≤w.heap.size;omega) jd ?_ (fun cs f cA aQ e=>⟨(uk md _ cs f cA aQ e).1,Nat.le_of_eq (uk md _ cs f cA aQ e).2.symm⟩) (fun _ _ _=>rfl) ?_
   ·intro d md2 hd he;have:=C.lt (dE.1 hd).2;simp only at he;omega
   ·refine B7 _ _ _ ?_;rw[Gd];exact gA (by unfold cut;rw[if_pos Ac];exact q1)
  ·have Ac:(hs c).size≤(hs k).size:=X.mono om (by have:=ha.1;omega);have e:cut (kN μ (hs k).size ⟨w.heap.size,0,n⟩) (hs c).size=cut μ (hs c).size:=by
    funext b
    unfold cut kN;by_cases e1:b<(hs c).size
    ·rw[if_pos e1,if_pos e1,if_neg om]
    ·rw[if_neg e1,if_neg e1]
   rw[e];exact C.rel.alc hw
 ·refine⟨hw.tape.trans C.grow.tape,hw.os.trans C.grow.os,hw.output.trans C.grow.output,by rw[hw.size];omega,fun r hr hk=>?_⟩;rw[vj r om];exact C.grow.bl r hr hk
 ·intro b m h0 hm;rcases lr hm with⟨rfl,rfl⟩|⟨_,h2⟩
  ·exact⟨wV,om,.inl hgw⟩
  ·exact C.new b m h0 h2
 ·intro j zu hj Um hl;have bc:j≠k:=fun e=>by subst e;rw[pZ]at hl;cases hl
  rw[g9 bc]at hl;obtain⟨q1,q2⟩:=C.late j zu hj Um hl;exact⟨by rw[o5 _ _ (fun e=>bc (Al.inj X Um ha e))];exact q1,q2⟩
 ·intro j zu hj Um hl;by_cases e:j=k
  ·subst e;exact⟨_,bN _ _ _⟩
  ·rw[g9 e]at hl;obtain⟨m,hm⟩:=C.bo j zu hj Um hl;exact⟨m,hle _ _ hm⟩
 ·intro b m hb hm;rcases lr hm with⟨rfl,rfl⟩|⟨_,h2⟩
  ·have kr:=wo ha hb;have Gd:max (hs k).size (hs c).size=(hs k).size:=Nat.max_eq_left hb;exact⟨k,md,o',kr,pZ _ _,ha,rfl,jd,⟨hgw,rfl⟩,fun aU h b' tZ=>B7 aU h b' (by rw[Gd];exact bn.le_trans (gP hle (Nat.le_refl _)) tZ)⟩
  ·obtain⟨j,zu,o2,k1,k2,k3,k4,k5,k6,k7⟩:=C.xo b m hb h2;exact⟨j,zu,o2,k1,nP k2,k3,k4,by rw[vj _ (C.lt h2)];exact k5,k6,fun aU h b' tZ=>k7 aU h b' (bn.le_trans (gP hle (Nat.le_refl _)) tZ)⟩
 ·intro b1 b2 m1 m2 oB h1 h2 he;rcases lr h1 with⟨rfl,rfl⟩|⟨_,h1⟩<;>rcases lr h2 with⟨rfl,rfl⟩|⟨_,h2⟩
  ·rfl
  ·have:=C.lt h2;simp only at he;omega
  ·have:=C.lt h1;simp only at he;omega
  ·exact C.apart b1 b2 m1 m2 oB h1 h2 he
theorem Core.du (X:GQ ops hs lg) (C:Core E base B ops hs lg jz w0 c L μ w) (hc:c<ops.length) (he:lg c= .du (hs c) (hs (c+1))) {fQ:bn} {w1:World} (S:Step E base B (cut μ (hs c).size) (hs c) w fQ (hs (c+1)) w1):
 ∃aU,μ.le aU∧cut aU (hs (c+1)).size=fQ∧Core E base B ops hs lg jz w0 (c+1) (rD L c) aU w1:=by
 have bW:=X.step hc;have Rn:∀{j md},Al ops hs lg j md→j≠c:=fun ha e=>by subst e;have:=ha.2.1;rw[he]at this;cases this
 -- whoever is made early stands behind
 have ZA:∀b m,(hs c).size≤b→μ b=some m→(hs (c+1)).size≤b:=by
  intro b m hb hm;obtain⟨j,md,o',k1,k2,k3,k4,_⟩:=C.xo b m hb hm;have:=Rn k3;rw[k4];exact X.mono om (by have:=k3.1;omega)
 let aU:bn:=fun b=>if b<(hs (c+1)).size then fQ b else μ b
 have bH:∀b,b<(hs (c+1)).size→aU b=fQ b:=fun b hb=>if_pos hb;have wo:∀b,(hs (c+1)).size≤b→aU b=μ b:=fun b hb=>if_neg om;have hle:μ.le aU:=by
  intro b m hm;by_cases hb:b<(hs (c+1)).size
  ·rw[bH b hb];refine S.le b m (dE.2 ⟨?_,hm⟩);by_cases h2:b<(hs c).size
   ·exact h2
   ·have:=ZA b m om hm;omega
  ·rw[wo b om];exact hm
 have Ro:cut aU (hs (c+1)).size=fQ:=by
  funext b
  unfold cut;by_cases hb:b<(hs (c+1)).size
  ·rw[if_pos hb,bH b hb]
  ·rw[if_neg hb];cases hm:fQ b with
   |none=>rfl
   |some m=>have:=S.rel.gh b m hm;omega
 have vj:∀b m,(hs c).size≤b→μ b=some m→w1.heap[m.r]? =w.heap[m.r]? :=by
  intro b m hb hm;refine S.grow.bl m.r (C.lt hm) fun b2 m2 rY Up=>?_;have h2:=dE.1 rY;have:=C.apart b b2 m m2 hb hm h2.2 Up.symm;omega
 have lr:∀{b:Nat} {m:MT},aU b=some m→(μ b=some m)∨(μ b=none∧b<(hs (c+1)).size∧(hs c).size≤b∧base≤b∧(w.heap.size≤m.r∨∃b0 m0,base≤b0∧b0<(hs c).size∧μ b0=some m0∧m0.r=m.r)):=by
  intro b m hm;cases h0:μ b with
  |some m0=>have:=hle b m0 h0;rw[hm]at this;cases this;exact .inl rfl
  |none=>
   by_cases hb:b<(hs (c+1)).size
   ·rw[bH b hb]at hm;have hn:cut μ (hs c).size b=none:=by unfold cut;split<;>first|exact h0|rfl
    obtain⟨q1,q2,q3⟩:=S.new b m hn hm;refine .inr ⟨rfl,hb,q1,q2,?_⟩;rcases q3 with q3|⟨b0,m0,q3,q4,q5⟩
    ·exact .inl q3
    ·have:=dE.1 q4;exact .inr ⟨b0,m0,q3,this.1,this.2,q5⟩
   ·rw[wo b om,h0]at hm;cases hm
 refine⟨aU,hle,Ro,hc,?_,by rw[Ro];exact S.rel,bn.le_trans C.QP hle,?_,?_,?_,?_,?_,?_,?_⟩
 ·intro j h h' hj hl;by_cases e:j=c
  ·subst e;rw[pZ];simp
  ·rw[g9 e,C.DV j h h' hj hl];omega
 ·refine⟨S.grow.tape.trans C.grow.tape,S.grow.os.trans C.grow.os,S.grow.output.trans C.grow.output,Nat.le_trans C.grow.size S.grow.size,fun r hr hk=>?_⟩;rw[S.grow.bl r (Nat.lt_of_lt_of_le hr C.grow.size) ?_,C.grow.bl r hr hk];intro b m hb YZ;have hm:=(dE.1 hb).2;cases h0:jz b with
  |some m0=>
   have:=C.QP b m0 h0;rw[hm]at this;cases this;exact hk b m h0 YZ
  |none=>
   obtain⟨_,_,h3⟩:=C.new b m h0 hm;rcases h3 with h3|⟨b0,m0,wU,Gz,Nd⟩
   ·omega
   ·have:=hk b0 m0 Gz (Nd.trans YZ);omega
 ·intro b m h0 hm;rcases lr hm with hm|⟨hn,oB,rY,MS,Yx⟩
  ·exact C.new b m h0 hm
  ·have wV:=X.mono (i:=0) (j:=c) (Nat.zero_le _) C.cN;refine⟨om,MS,?_⟩;rcases Yx with Yx|⟨b0,m0,q1,q2,q3,q4⟩
   ·exact .inl (Nat.le_trans C.grow.size Yx)
   ·cases wV:jz b0 with
    |some m00=>
     have:=C.QP b0 m00 wV;rw[q3]at this;cases this;exact .inr ⟨b0,m0,q1,wV,q4⟩
    |none=>
     obtain⟨_,_,hx⟩:=C.new b0 m0 wV q3;rcases hx with hx|⟨b1,m1,r1,r2,r3⟩
     ·exact .inl om
     ·exact .inr ⟨b1,m1,r1,r2,r3.trans q4⟩
 ·intro b hb h0;have wV:=X.mono (i:=0) (j:=c) (Nat.zero_le _) C.cN;rw[S.Gy b om ?_,C.Gy b hb h0];cases hm:cut μ (hs c).size b with
  |none=>rfl
  |some m=>have:=(C.new b m h0 (dE.1 hm).2).1;omega
 ·intro j md hj ha hl;have bc:=Rn ha;rw[g9 bc]at hl;obtain⟨q1,q2⟩:=C.late j md om ha hl;have hjs:(hs j).size<(hs c).size:=by
   have:=X.mono (i:=j+1) (j:=c) om C.cN;rw[ha.size]at this;omega
  have hn:cut μ (hs c).size (hs j).size=none:=by unfold cut;split<;>first|exact q1|rfl
  refine⟨?_,by rw[S.Gy _ hjs hn];exact q2⟩;rw[bH _ om];cases hm:fQ (hs j).size with
  |none=>rfl
  |some m=>have:=(S.new _ m hn hm).1;omega
 ·intro j md hj ha hl;rw[g9 (Rn ha)]at hl;obtain⟨m,hm⟩:=C.bo j md om ha hl;exact⟨m,hle _ _ hm⟩
 ·intro b m hb hm;rw[wo b hb]at hm;obtain⟨j,md,o',k1,k2,k3,k4,k5,k6,k7⟩:=C.xo b m om hm;have:=Rn k3;exact⟨j,md,o',om,nP k2,k3,k4,by rw[vj b m om hm];exact k5,k6,fun uY h b' tZ=>k7 uY h b' (bn.le_trans (gP hle (Nat.le_refl _)) tZ)⟩
 ·intro b1 b2 m1 m2 oB h1 h2 hr;rw[wo b1 oB]at h1;rcases lr h2 with h2|⟨hn,_,rY,_,Yx⟩
  ·exact C.apart b1 b2 m1 m2 om h1 h2 hr
  ·have Kq:=C.lt h1;rcases Yx with Yx|⟨b0,m0,q1,q2,q3,q4⟩
   ·omega
   ·have:=C.apart b1 b0 m1 m0 om h1 q3 (hr.trans q4.symm);omega
end
section
variable {P:Program} {E:Env} {base B:Nat} {cf:fJ} {rf:eS} {ops:List Oper} {fs:Nat→AF} {hs:Nat→ab} {vs:Nat→Value} {lg:Nat→dZ}
variable {jz:bn} {w0:World} {a0:Act} {c:Nat} {L:Nat→Bool} {μ aU:bn} {w w':World} {a:Act}
structure mO (ops:List Oper) (fs:Nat→AF) (hs:Nat→ab) (vs:Nat→Value) (jz:bn) (a0:Act) (c:Nat) (L:Nat→Bool) (μ:bn) (a:Act):Prop where
 size:a.tmps.size=(fs 0).n
 dfs:a.defers=a0.defers
 w:∀(j:Nat) (o:Oper) (d:Tmp),ops[j]? =some o→L j=true→o.dst=some d→au (cut μ (max (hs (j+1)).size (hs c).size)) (vs j) (a.tmps.getD d undef)
 old:∀d:Tmp,(∀(j:Nat) (o:Oper),ops[j]? =some o→L j=true→o.dst≠some d)→au jz ((fs 0).get d) (a.tmps.getD d undef)
theorem mO.mono (S:mO ops fs hs vs jz a0 c L μ a) (hle:μ.le aU) {c':Nat} (hc:(hs c).size≤(hs c').size):mO ops fs hs vs jz a0 c' L aU a:=
 ⟨S.size,S.dfs,fun j o d ho hl hd=>(S.w j o d ho hl hd).mono (gP hle om),S.old⟩
theorem mO.put (X:nO ops) (hd:j5 (fs 0).n ops=true) (S:mO ops fs hs vs jz a0 c L μ a) {k:Nat} {o:Oper} (ho:ops[k]? =some o) (hk:L k=false) {v':Value}
 (hv:au (cut μ (max (hs (k+1)).size (hs c).size)) (vs k) v'):mO ops fs hs vs jz a0 c (rD L k) μ (a.put o.dst v'):=by
 have dK:∀t,o.dst≠some t→(a.put o.dst v').tmps.getD t undef=a.tmps.getD t undef:=by
  intro t ht;cases hd:o.dst with
  |none=>rfl
  |some d=>
   rw[hd]at ht;have bc:d≠t:=fun h=>ht (by rw[h]);show(a.tmps.setIfInBounds d v').getD t undef=_;simp only[Array.getD_eq_getD_getElem?,Array.getElem?_setIfInBounds_ne bc]
 refine⟨?_,?_,?_,?_⟩
 ·rw[←S.size];cases o.dst with
  |none=>rfl
  |some d=>exact Array.size_setIfInBounds
 ·rw[←S.dfs];cases o.dst<;>rfl
 ·intro j p d hp hl hdj;by_cases e:j=k
  ·subst e;rw[ho]at hp;cases hp;have bH:d<a.tmps.size:=by
    rw[S.size];unfold j5 at hd;have:=List.all_eq_true.1 hd o (List.mem_of_getElem? ho);rw[hdj]at this;simpa using this
   have:(a.put o.dst v').tmps.getD d undef=v':=by
    rw[hdj];show(a.tmps.setIfInBounds d v').getD d undef=v';simp[bH]
   rw[this];exact hv
  ·rw[g9 e]at hl;rw[dK d (X.one k j o p d ho hp (fun h=>e h.symm) hdj)];exact S.w j p d hp hl hdj
 ·intro d vh;rw[dK d (vh k o ho (pZ _ _))];exact S.old d fun j p hp hl=>vh j p hp (nP hl)
theorem mO.skip (S:mO ops fs hs vs jz a0 c L μ a) {k:Nat} (hk:∀o,ops[k]? =some o→o.dst=none):mO ops fs hs vs jz a0 c (rD L k) μ a:=by
 refine⟨S.size,S.dfs,fun j o d ho hl hd=>?_,fun d vh=>S.old d fun j p hp hl=>vh j p hp (nP hl)⟩;by_cases e:j=k
 ·subst e;rw[hk o ho]at hd;cases hd
 ·rw[g9 e]at hl;exact S.w j o d ho hl hd
theorem mO.look (X:nO ops) (T:Trace E base cf rf ops ops fs hs vs lg) (K:GQ ops hs lg) (sD:j5 (fs 0).n ops=true) (tZ:jz.le μ) (acS:∀b m,jz b=some m→b<(hs 0).size)
 (S:mO ops fs hs vs jz a0 c L μ a) (hC:rC ops L) {k:Nat} {o:Oper} (ho:ops[k]? =some o) (hk:L k=false) (hr:xm ops L o) {t:Tmp} (ht:t∈looks ops o):
 au (cut μ (max (hs k).size (hs c).size)) ((fs k).get t) (a.tmps.getD t undef):=by
 have QR:k<ops.length:=(List.getElem?_eq_some_iff.1 ho).1;have wV:=K.mono (i:=0) (j:=k) (Nat.zero_le _) om;have Uq:(∀(j:Nat) (p:Oper),j<k→ops[j]? =some p→p.dst≠some t)→(∀(j:Nat) (p:Oper),ops[j]? =some p→L j=true→p.dst≠some t)→au (cut μ (max (hs k).size (hs c).size)) ((fs k).get t) (a.tmps.getD t undef):=by
  intro h1 h2;rw[T.NH t k om fun j p hj hp=>h1 j p hj hp];exact(S.old t h2).mono (NK tZ fun b m hb=>by have:=acS b m hb;omega)
 by_cases hex:∃j p,ops[j]? =some p∧p.dst=some t∧j≠k
 ·obtain⟨j,p,hp,hd,bc⟩:=hex;have ZB:=X.look k j o p t ho hp (fun h=>bc h.symm) hd ht;have Ur:∀(i:Nat) (q:Oper),ops[i]? =some q→q.dst=some t→i=j:=fun i q hq Rp=>by
   by_cases e:i=j
   ·exact e
   ·exact absurd Rp (X.one i j q p t hq hp e hd)
  rcases Nat.lt_trichotomy j k with bH|he|eC
  ·have hl:=fU X hC bH ho hr (.inr ZB);have htn:t<(fs 0).n:=by
    unfold j5 at sD;have:=List.all_eq_true.1 sD p (List.mem_of_getElem? hp);rw[hd]at this;simpa using this
   rw[T.NJ X htn hp hd k om bH];exact(S.w j p t hp hl hd).mono (gP μ.le_refl (by have:=K.mono (i:=j+1) (j:=k) bH om;omega))
  ·exact absurd he bc
  ·have w7:L j=false:=by
    cases hl:L j with
    |false=>rfl
    |true=>
     have:=fU X hC eC hp (hC j p hp hl) (.inl ZB);rw[hk]at this;cases this
   refine Uq (fun i q hi hq Rp=>?_) (fun i q hq hl Rp=>?_)
   ·have:=Ur i q hq Rp;omega
   ·have:=Ur i q hq Rp;subst this;rw[w7]at hl;cases hl
 ·refine Uq (fun i q hi hq Rp=>hex ⟨i,q,hq,Rp,om⟩) (fun i q hq hl Rp=>?_);by_cases e:i=k
  ·subst e;rw[hk]at hl;cases hl
  ·exact hex ⟨i,q,hq,Rp,e⟩
structure Inv (E:Env) (base B:Nat) (ops:List Oper) (fs:Nat→AF) (hs:Nat→ab) (vs:Nat→Value) (lg:Nat→dZ) (jz:bn) (w0:World) (a0:Act) (L:Nat→Bool) (a:Act) (w:World):Prop where
 ex:∃c μ,Core E base B ops hs lg jz w0 c L μ w∧mO ops fs hs vs jz a0 c L μ a
theorem GR {k:Nat} {o:Oper} (hC:rC ops L) (ho:ops[k]? =some o) (hr:xm ops L o):rC ops (rD L k):=by
 intro j p hp hl e he hb;by_cases Zx:j=k
 ·subst Zx;rw[ho]at hp;cases hp;exact nP (hr e he hb)
 ·rw[g9 Zx]at hl;exact nP (hC j p hp hl e he hb)
theorem Rq (hE:bu P E) (rz:j8 P E base B cf) (BV:nH P E base B rf) (BW:nJ E cf) (BX:kT rf) {F:Fence} (hF:gO F) {n:Nat} {ops:Array Oper}
 (X:nO ops.toList) (T:Trace E base cf rf ops.toList ops.toList fs hs vs lg) (K:GQ ops.toList hs lg) (sD:j5 (fs 0).n ops.toList=true) (H0:bh E base B jz (hs 0) w0)
 (I:Inv E base B ops.toList fs hs vs lg jz w0 a0 L a w) (hC:rC ops.toList L) {k:Nat} {o:Oper} (ho:ops[k]? =some o) (hk:L k=false) (hr:xm ops.toList L o)
 {next:Act→World→Prop} {Q:Exit→Act→World→Prop} (hn:∀a' w',Inv E base B ops.toList fs hs vs lg jz w0 a0 (rD L k) a' w'→next a' w'):
 if Region.wanted o (yielded ops a.tmps)=true then o.wpIn F n P a w next Q else(∀f,o.about P w a.eval=some f→F.fn f)∧next (a.put o.dst undef) w:=by
 obtain⟨c,μ,C,S⟩:=I.ex;have Ke:ops.toList[k]? =some o:=by simpa using ho
 have QR:k<ops.toList.length:=(List.getElem?_eq_some_iff.1 Ke).1;have hB:B≤w0.heap.size:=H0.low;have wU:base≤(hs 0).size:=H0.l5;have V1:∀s,(hs 0).size≤s→gB E (cut μ s):=fun s ZC g VY=>by
  obtain⟨m,q1,q2⟩:=H0.dc g VY;exact⟨m,dE.2 ⟨by have:=H0.gh g m q1;omega,C.QP _ _ q1⟩,q2⟩
 have h0k:=K.mono (i:=0) (j:=k) (Nat.zero_le _) om
 have hf:cY (cut μ (max (hs k).size (hs c).size)) ((fs k).only (looks ops.toList o)) (Ag a (looks ops.toList o)).tmps:=
  NF (by rw[S.size,T.VX k om]) fun t ht=>S.look X T K sD C.QP H0.gh hC Ke hk hr ht
 have hgk:gB E (cut μ (max (hs k).size (hs c).size)):=V1 _ om;have qG:Region.wanted o (yielded ops a.tmps)=wanted ops.toList o (fs k):=by
  rw[←B4,rA hf o,DT]
 have hkc:(hs k).size≤(hs (k+1)).size:=K.step QR;rcases T.run k o Ke with⟨hw,gD⟩|⟨hw,hv,hh,vl⟩
 ·rw[qG,if_pos hw];have acV:=noSelect gD;have V2:=BU gD;have Us:eH E base cf rf o ((fs k).only (looks ops.toList o)) (hs k)=some ⟨vs k,hs (k+1),lg k⟩:=by rw[GM (Km _ _ _)];exact gD
  have hex:execOp a.eval o=execOp (Ag a (looks ops.toList o)).eval o:=Ko acV
  -- an operation that turns no memory
  have quiet:∀v',au (cut μ (max (hs k).size (hs c).size)) (vs k) v'→(∀h h',lg k≠ .du h h')→(∀h h',lg k≠ .alloc h h')→next (a.put o.dst v') w:=by
   intro v' hv h1 h2;exact hn _ _ ⟨c,μ,C.DW h1 h2,S.put X sD Ke hk (hv.mono (gP μ.le_refl om))⟩
  rcases vd Us with⟨hp,hh,vl⟩|⟨q,hq,hv,hh,vl⟩|⟨md,hd,cW,hv,hh,vl⟩|vl
  ·-- plain
   obtain⟨v',q1,q2⟩:=pV hE hgk hf hp;refine⟨fun _ _=>hF.fn _,?_⟩;rw[Oper.semAt_eq _ _ _ V2,hex,q2 w];exact quiet v' q1 (fun h h' e=>by simp only at vl;rw[vl]at e;cases e) (fun h h' e=>by simp only at vl;rw[vl]at e;cases e)
  ·-- a read
   simp only at hv hh vl;have hqk:q.dw<(hs k).size:=by
    rcases K.kind k QR with⟨h1,_⟩|⟨q',h1,_,h3⟩|⟨md,h1,_⟩|⟨h1,_⟩<;>rw[vl]at h1<;>cases h1
    exact h3
   -- who may come between
   have DX:∀i,i<ops.toList.length→i≠k→lg i= .alloc (hs i) (hs (i+1))→qW (hs i) q=true:=by
    intro i hi bc ZD;rcases Nat.lt_or_ge i k with h1|h1
    ·have hp:=K.pass i k h1 QR;rw[ZD,vl]at hp;exact hp
    ·have hp:=K.pass k i om hi;rw[ZD,vl]at hp;exact hp
   have sC:∀i,i<ops.toList.length→i≠k→(lg i= .du (hs i) (hs (i+1))∧(c≤i∧i<k∨k<i∧i<c))→fE (hs i) (hs (i+1)) q=true:=by
    intro i hi bc se
    ·obtain⟨hie,acX⟩:=se;have hL:=C.DV i _ _ hi hie;have hio:=List.getElem?_eq_getElem (l:=ops.toList) (i:=i) hi;rcases acX with⟨h1,h2⟩|⟨h1,h2⟩
     ·have hp:=K.pass i k h2 QR;rw[hie,vl]at hp;simp only[aX,Bool.or_eq_true]at hp;rcases hp with hp|hp
      ·have:=hL.1 (fU X hC h2 Ke hr (.inl hp));omega
      ·exact hp
     ·have hp:=K.pass k i h1 hi;rw[hie,vl]at hp;simp only[aX,Bool.or_eq_true]at hp;rcases hp with hp|hp
      ·have Yy:=hL.2 h2;have:=fU X hC h1 hio (hC i _ hio Yy) (.inl hp);rw[hk]at this;cases this
      ·exact hp
   obtain⟨v',q1,q2⟩:=Kk (base:=base) (w:=w) hE hf hgk (v:=vs k) hq (fun m hm=>by
    have ZE:=(dE.1 hm).2;by_cases Y5:q.dw<(hs c).size
    ·refine⟨hs c,?_,?_⟩
     ·rcases Nat.le_total k c with V3|V3
      ·rw[K.chain hqk V3 C.cN fun i h1 h2=>⟨fun h3=>?_,fun h3=>?_⟩];·exact hv
       ·have bc:i≠k:=fun e=>by
         subst e;rw[vl]at h3;cases h3
        exact sC i (by have:=C.cN;omega) bc ⟨h3,.inr ⟨om,h2⟩⟩
       ·have bc:i≠k:=fun e=>by
         subst e;rw[vl]at h3;cases h3
        exact DX i (by have:=C.cN;omega) bc h3
      ·rw[←K.chain Y5 V3 om fun i h1 h2=>⟨fun h3=>?_,fun h3=>?_⟩];·exact hv
       ·exact sC i om om ⟨h3,.inl ⟨h1,h2⟩⟩
       ·exact DX i om om h3
     ·obtain⟨p,p',k1,k2,k3⟩:=C.rel.obj q.dw m (dE.2 ⟨Y5,ZE⟩);exact⟨p,p',k1,k2,k3.mono (gP μ.le_refl om) id⟩
    ·obtain⟨j,md,o',k1,k2,k3,k4,k5,k6,k7⟩:=C.xo q.dw m om ZE;have Zx:j<k:=by
      rcases Nat.lt_or_ge j k with h|h
      ·exact h
      ·have:=K.mono h (by have:=k3.1;omega);omega
     have Dr:=k3.size;refine⟨hs (j+1),?_,md.obj q.dw,o',?_,k5,?_⟩
     ·rw[←K.chain (lo:=j+1) (hi:=k) om Zx om fun i h1 h2=>⟨fun h3=>?_,fun h3=>?_⟩];·exact hv
      ·exact sC i om om ⟨h3,.inl ⟨om,h2⟩⟩
      ·exact DX i om om h3
     ·rw[k3.2.2,ab.aq,if_pos k4,←k4]
     ·exact k7 _ _ _ (gP μ.le_refl om))
   refine⟨fun _ _=>hF.fn _,?_⟩;rw[Oper.semAt_eq _ _ _ V2,hex,q2];exact quiet v' q1 (fun h h' e=>by rw[vl]at e;cases e) (fun h h' e=>by rw[vl]at e;cases e)
  ·-- a block is made
   simp only at hv hh vl;obtain⟨o',k',hvf,A⟩:=nC hE hgk hf cW;have ha:Al ops.toList hs lg k md:=⟨QR,vl,hh⟩;refine⟨fun _ _=>hF.fn _,?_⟩;rw[Oper.semAt_eq _ _ _ V2,hex,A.run w];obtain⟨hle,C'⟩:=C.alloc K hB wU ha hk (DC.mk' w o') (n:=k') fun aU h b' tZ=>A.obj aU h base b' _ tZ;refine hn _ _ ⟨c,_,C',(S.mono hle (Nat.le_refl _)).put X sD Ke hk ?_⟩;rw[hv];refine A.val _ _ _ (dE.2 ⟨?_,bN _ _ _⟩);have:=ha.size;omega
  ·-- memory is turned
   have QS:lg k= .du (hs k) (hs (k+1)):=vl;have kr:c≤k:=by
    have:=C.DV k _ _ QR QS;rw[hk]at this;rcases Nat.lt_or_ge k c with h|h
    ·exact absurd (this.2 h) (by simp)
    ·exact h
   have NO:∀i,c≤i→i<k→∀h h',lg i≠ .du h h':=by
    intro i h1 h2 g g' e;have hL:=C.DV i _ _ om e;have hp:=K.pass i k h2 QR;rw[e,QS]at hp;simp only[aX]at hp;have:=hL.1 (fU X hC h2 Ke hr (.inl hp));omega
   have Ck:=C.V0 K hB wU (k - c) om (fun i h1 h2=>NO i h1 om);rw[show c+(k - c)=k by omega]at Ck;have Gd:max (hs k).size (hs c).size=(hs k).size:=Nat.max_eq_left (K.mono kr om);rw[Gd]at hf;have Sk:mO ops.toList fs hs vs jz a0 k L μ a:=S.mono μ.le_refl (K.mono kr om);refine Rm hE rz BV BW BX hF hf Ck.rel Us hex fun fQ v' w1 q1 q2=>?_;obtain⟨aU,e1,e2,C'⟩:=Ck.du K QR QS q2;refine hn _ _ ⟨k+1,aU,C',(Sk.mono e1 (K.step QR)).put X sD Ke hk ?_⟩;rw[Nat.max_self,e2];exact q1
 ·rw[qG,if_neg (by rw[hw];simp)];refine⟨fun _ _=>hF.fn _,hn _ _ ⟨c,μ,C.DW (fun h h' e=>by rw[vl]at e;cases e) (fun h h' e=>by rw[vl]at e;cases e),S.put X sD Ke hk ?_⟩⟩;rw[hv];exact .undef _
end
theorem V4 {E:Env} {base:Nat} {cf:fJ} {rf:eS} {all ops:List Oper} {fs:Nat→AF} {hs:Nat→ab} {vs:Nat→Value} {lg:Nat→dZ} (T:Trace E base cf rf all ops fs hs vs lg) {uj:List dZ}
 (hl:∀j,j<ops.length→uj[j]? =some (lg j)) (hp:lD (db ops []) 0 uj=true):GQ ops hs lg:=by
 obtain⟨k1,k2⟩:=vg hp;refine⟨fun j hj=>?_,fun i j Dq hj=>?_⟩
 ·have hg:=k1 j _ (hl j hj);rcases T.run j _ (List.getElem?_eq_getElem hj)with⟨_,hr⟩|⟨_,_,h1,h2⟩
  ·rcases vd hr with⟨_,h1,h2⟩|⟨q,_,_,h1,h2⟩|⟨md,hd,_,_,h1,h2⟩|h2
   ·exact .inl ⟨h2,h1⟩
   ·simp only at h1 h2;rw[h2]at hg;exact .inr (.inl ⟨q,h2,h1,by simpa[lZ]using hg⟩)
   ·exact .inr (.inr (.inl ⟨md,h2,h1⟩))
   ·simp only at h2;rw[h2]at hg;exact .inr (.inr (.inr ⟨h2,by simpa[lZ]using hg⟩))
  ·exact .inl ⟨h2,h1⟩
 ·have:=k2 i j _ _ Dq (hl i om) (hl j hj);simpa using this
def Gm (listed:Array Bool):Nat→Bool:=fun j=>listed.getD j false
theorem IW {listed:Array Bool} {i:Nat} (hi:i<listed.size):Gm (listed.setIfInBounds i true)=rD (Gm listed) i:=by
 funext j
 unfold Gm rD;by_cases e:j=i
 ·subst e;rw[if_pos rfl];simp[hi]
 ·rw[if_neg e];simp only[Array.getD_eq_getD_getElem?,Array.getElem?_setIfInBounds_ne (fun h=>e h.symm)]
theorem mem_ready {ops:Array Oper} {listed:Array Bool} {i:Nat} (hi:i∈Region.ready .any ops listed) (fL:listed.size=ops.size):
 ∃o,ops[i]? =some o∧i<listed.size∧Gm listed i=false∧xm ops.toList (Gm listed) o:=by
 unfold Region.ready at hi;simp only[List.mem_filter,List.mem_range,Bool.and_eq_true,Bool.not_eq_true']at hi;obtain⟨h1,h2,h3⟩:=hi;have h4:=Array.getElem?_eq_getElem h1;rw[h4]at h3;simp only[Option.map_some,Option.getD_some,Array.all_eq_true_iff_forall_mem,Bool.or_eq_true,Bool.not_eq_true']at h3;refine⟨_,h4,om,?_,fun e he hb=>?_⟩
 ·have bH:i<listed.size:=by omega
  unfold Gm;simp only[Array.getD,bH,dif_pos]at h2 ⊢;exact h2
 ·rcases h3 e (by simpa using he)with h5|h5
  ·rw[hb]at h5;cases h5
  ·exact h5
theorem Ah {ops:Array Oper} {listed:Array Bool} (X:nO ops.toList) (fL:listed.size=ops.size) (h:Region.ready .any ops listed=[]):∀j,j<ops.size→Gm listed j=true:=by
 intro j
 induction j using Nat.strongRecOn with
 |ind j ih=>
  intro hj;cases hl:Gm listed j with
  |true=>rfl
  |false=>
   have hm:j∈Region.ready .any ops listed:=by
    unfold Region.ready;simp only[List.mem_filter,List.mem_range,Bool.and_eq_true,Bool.not_eq_true'];have h4:=Array.getElem?_eq_getElem hj;refine⟨hj,?_,?_⟩
    ·have bH:j<listed.size:=by omega
     unfold Gm at hl;simp only[Array.getD,bH,dif_pos]at hl ⊢;exact hl
    ·rw[h4];simp only[Option.map_some,Option.getD_some,Array.all_eq_true_iff_forall_mem,Bool.or_eq_true,Bool.not_eq_true'];intro e he;cases hb:Region.binds .any e with
     |false=>exact .inl rfl
     |true=>
      have:=X.Zw j _ (by rw[Array.getElem?_toList];exact h4) e (by simpa using he) hb;exact .inr (ih e.on this om)
   rw[h]at hm;cases hm
section
variable {P:Program} {E:Env} {base B:Nat} {cf:fJ} {rf:eS} {fs:Nat→AF} {hs:Nat→ab} {vs:Nat→Value} {lg:Nat→dZ}
variable {jz:bn} {w0:World} {a0:Act}
theorem NP (hE:bu P E) (rz:j8 P E base B cf) (BV:nH P E base B rf) (BW:nJ E cf) (BX:kT rf) {F:Fence} (hF:gO F) {n:Nat} {ops:Array Oper}
 (X:nO ops.toList) (T:Trace E base cf rf ops.toList ops.toList fs hs vs lg) (K:GQ ops.toList hs lg) (sD:j5 (fs 0).n ops.toList=true) (H0:bh E base B jz (hs 0) w0)
 {Q:Exit→Act→World→Prop} (hQ:∀L a w,(∀j,j<ops.size→L j=true)→Inv E base B ops.toList fs hs vs lg jz w0 a0 L a w→Q .normal a w):
 ∀(fuel:Nat) (listed:Array Bool) (a:Act) (w:World),listed.size=ops.size→listed.toList.count false≤fuel→rC ops.toList (Gm listed)→Inv E base B ops.toList fs hs vs lg jz w0 a0 (Gm listed) a w→
  wpAnyIn F n P .any ops Q fuel listed a w:=by
 intro fuel
 induction fuel with
 |zero=>
  intro listed a w fL acY hC I;have Kr:Region.ready .any ops listed=[]:=by
   apply List.eq_nil_iff_forall_not_mem.2;intro i hi;obtain⟨o,_,h2,h3,_⟩:=mem_ready hi fL;have l7:false∈listed.toList:=by
    unfold Gm at h3;simp only[Array.getD,h2,dif_pos]at h3;rw[←h3];exact List.mem_of_getElem? (by rw[Array.getElem?_toList];exact Array.getElem?_eq_getElem h2)
   have:=List.count_pos_iff.2 l7;omega
  exact⟨Kr,hQ _ _ _ (Ah X fL Kr) I⟩
 |succ fuel ih=>
  intro listed a w fL acY hC I;refine⟨fun Kr=>hQ _ _ _ (Ah X fL Kr) I,fun i hi=>?_⟩;obtain⟨o,h1,h2,h3,h4⟩:=mem_ready hi fL;have zq:ops.toList[i]? =some o:=by simpa using h1
  refine wpOpIn_step h1 fun K' hK'=>?_;refine Rq hE rz BV BW BX hF X T K sD H0 I hC h1 h3 h4 fun a' w' I'=>hK' _ _ (ih _ _ _ ?_ ?_ ?_ ?_)
  ·rw[Array.size_setIfInBounds];exact fL
  ·rw[Array.toList_setIfInBounds,List.count_set (by simpa using h2)];have dK:listed.toList[i]'(by simpa using h2)=false:=by
    unfold Gm at h3;simp only[Array.getD,h2,dif_pos]at h3;simpa using h3
   have l7:false∈listed.toList:=by rw[←dK];exact List.getElem_mem _
   have sk:=List.count_pos_iff.2 l7;rw[dK];have e1:(if(true==false)=true then 1 else 0)=0:=rfl;have e2:(if(false==false)=true then 1 else 0)=1:=rfl;omega
  ·rw[IW h2];exact GR hC zq h4
  ·rw[IW h2];exact I'
theorem IX (hE:bu P E) (hm:P.follows .mixedOrders=true):BZ P E base B:=by
 intro cf rf rz BV BW BX ops f h f' h' uj bW sD gD ZF μ a w hf H F n id Q hF hQ;obtain⟨fs,hs,vs,lg,T,e1,e2,e3,e4,e5⟩:=DU gD;have X:=VW bW;have K:=V4 T e5 ZF;refine wpIn_region_any hm ?_;have H0:bh E base B μ (hs 0) {w with drawn:=w.drawn+1}:=by rw[e2];exact H.congr rfl
 have hls:∀j,Gm (Array.replicate ops.size false) j=false:=by
  intro j;unfold Gm;by_cases hj:j<ops.size
  ·simp[hj]
  ·simp[hj]
 have Ro:cut μ (hs 0).size=μ:=by
  funext b
  unfold cut;split
  ·rfl
  ·cases hb:μ b with
   |none=>rfl
   |some m=>have:=H0.gh b m hb;omega
 have I0:Inv E base B ops.toList fs hs vs lg μ {w with drawn:=w.drawn+1} a (Gm (Array.replicate ops.size false)) a {w with drawn:=w.drawn+1}:=by
  refine⟨0,μ,⟨Nat.zero_le _,?_,by rw[Ro];exact H0,μ.le_refl,.refl _ _ _,?_,fun _ _ _=>rfl,?_,?_,?_,?_⟩,⟨?_,rfl,?_,?_⟩⟩
  ·intro j h h' _ _;rw[hls];simp
  ·intro b m h0 h1;rw[h0]at h1;cases h1
  ·intro j md hj;omega
  ·intro j md _ _ hl;rw[hls]at hl;cases hl
  ·intro b m hb hm;have:=H0.gh b m hm;omega
  ·intro b1 b2 m1 m2 oB h1;have:=H0.gh b1 m1 h1;omega
  ·rw[e1];exact hf.n.symm
  ·intro j o d _ hl;rw[hls]at hl;cases hl
  ·intro d _;rw[e1];exact hf.get d
 refine NP hE rz BV BW BX hF X T K (by rw[e1];exact sD) H0 (a0:=a) ?_ ops.size _ a _ (by simp) ?_ ?_ I0
 ·intro L a' w' iY I;obtain⟨c,aU,C,S⟩:=I.ex;have hlen:ops.toList.length=ops.size:=by simp
  have Cn:=C.V0 K H0.low H0.l5 (ops.toList.length - c) (by have:=C.cN;omega) (fun i h1 h2 g g' hl=>by
   have h3:i<ops.toList.length:=by have:=C.cN;omega
   have:=(C.DV i _ _ h3 hl).1 (iY i om);omega)
  have hcN:=C.cN;rw[show c+(ops.toList.length - c)=ops.toList.length by omega]at Cn;have hle:μ.le (cut aU (hs ops.toList.length).size):=NK Cn.QP fun b m hb=>by
   have h1:=H0.gh b m hb;have h2:=K.mono (i:=0) (j:=ops.toList.length) (Nat.zero_le _) (Nat.le_refl _);omega
  have St:Step E base B μ (hs 0) {w with drawn:=w.drawn+1} (cut aU (hs ops.toList.length).size) (hs ops.toList.length) w':=
   ⟨Cn.rel,Cn.grow,hle,fun b m h0 h1=>Cn.new b m h0 (dE.1 h1).2,Cn.Gy,K.mono (Nat.zero_le _) (Nat.le_refl _)⟩
  rw[e2,e4]at St;refine hQ _ a' w' ?_ S.dfs ((Step.drawn H _).trans St);rw[←e3];refine⟨by rw[T.VX _ (Nat.le_refl _),S.size],fun t=>?_⟩;by_cases hex:∃(j:Nat) (o:Oper),ops.toList[j]? =some o∧o.dst=some t
  ·obtain⟨j,o,ho,hd⟩:=hex;have hj:j<ops.toList.length:=(List.getElem?_eq_some_iff.1 ho).1;have htn:t<(fs 0).n:=by
    rw[e1];unfold j5 at sD;have:=List.all_eq_true.1 sD o (List.mem_of_getElem? ho);rw[hd]at this;simpa using this
   rw[T.NJ X htn ho hd _ (Nat.le_refl _) hj];refine(S.w j o t ho (iY j om) hd).mono ?_;rw[←e4];exact gP aU.le_refl (by
    have h1:=K.mono (i:=j+1) (j:=ops.toList.length) om (Nat.le_refl _);have h2:=K.mono (i:=c) (j:=ops.toList.length) C.cN (Nat.le_refl _);omega)
  ·rw[T.NH t _ (Nat.le_refl _) fun j o _ ho hd=>hex ⟨j,o,ho,hd⟩,←e4];exact(S.old t fun j o ho _ hd=>hex ⟨j,o,ho,hd⟩).mono hle
 ·simp
 ·intro j o ho hl;rw[hls]at hl;cases hl
end
def ij (P:Program) (tS:FuncId→List Value→ab→Option (Value×ab)):Env where
 desc:=fun t=>P.underlying t
 size:=fun t=>(P.info? t).map (·.size)
 bytes:=fun t=>(P.info? t).map (·.bytes)
 zero:=fun t=>(P.info? t).bind fun i=>i.zero.bind fun z=>bF (fj z) (some z)
 qR:=fun t=> !P.eqGuardType P.depth t&& !P.stoodInHeld t
 func:=fun g=>(P.funcs[g]?).bind fun fn=>bF (fn.body.isSome&& !(fn.name== "runtime.NumGoroutine")) (some fn)
 wg:=fun _=>none
 still:=fun _=>false
 tS:=fun _=>tS
theorem Ut (P:Program) (tS:FuncId→List Value→ab→Option (Value×ab)):bu P (ij P tS):=by
 refine⟨fun t d h=>h,fun t n h=>?_,fun t n h=>?_,fun t z h=>?_,fun t h=>?_,fun f fn h=>?_⟩
 ·simp only[ij,Option.map_eq_some_iff]at h;obtain⟨i,h1,h2⟩:=h;exact⟨i,h1,h2⟩
 ·simp only[ij,Option.map_eq_some_iff]at h;obtain⟨i,h1,h2⟩:=h;exact⟨i,h1,h2⟩
 ·simp only[ij,Option.bind_eq_some_iff,ai,Option.some.injEq]at h;obtain⟨i,h1,z',h2,h3,rfl⟩:=h;exact⟨⟨i,h1,h2⟩,h3⟩
 ·simp only[ij,Bool.and_eq_true,Bool.not_eq_true']at h;exact h
 ·simp only[ij,Option.bind_eq_some_iff,ai,Option.some.injEq,Bool.and_eq_true,Bool.not_eq_true']at h;obtain⟨i,h1,⟨h2,h3⟩,rfl⟩:=h;exact⟨h1,h2,h3⟩
section
variable {P:Program} {E:Env} {base B:Nat}
theorem xp (hE:bu P E) (hO:iJ P E base B) (hm:P.follows .mixedOrders=true) (n:Nat):j8 P E base B (fK E base n):=
 NB hE hO (codeOk hE hO (IX hE hm) n).1
def jJ:FuncId→List Value→ab→Option (Value×ab):=fun _ _ _=>none
def wV:ab:=⟨.nil,0⟩
def xq:Option (Value×ab)→Bool
 |some (.bool b,_)=>b
 |_=>false
theorem zH {x:Option (Value×ab)} (h:xq x=true):∃h',x=some (.bool true,h'):=by
 unfold xq at h;split at h
 ·subst h;exact⟨_,rfl⟩
 ·cases h
end
end Go.M
namespace Go.M
open Go Go.ChangeShapes Go.WideShapes Go.ChangeAt Go.RowKit
section
variable {H:Type} {enc:TypeId×Value→H} {P:Program}
theorem qH (hl:laidOutB P=true) {W W':World} {sp:Nat→Bool}:∀{ts:List TypeId} {vs:List Value} {ds:List (DataW H)} {ps:List MemPlace},(∀t∈ts,P.readableRec t=true∧t<P.types.size)→
 DataW.TrodAll enc P W 0 (fun _=>true) true ts vs ds ps→(∀p∈ps,W.sameAt W' p)→(∀p∈ps,sp p.block=true)→DataW.TrodAll enc P W' 0 sp true ts vs ds ps
 |[],[],[],ps,_,h,_,_=>h
 |t::ts,v::vs,d::ds,ps,hr,h,hs,hp=>by
  obtain⟨p,q,h1,h2,rfl⟩:=h;refine⟨p,q,?_,?_,rfl⟩
  ·exact WideElems.Trod_stays hl (hr t List.mem_cons_self).1 (hr t List.mem_cons_self).2 h1 (fun x hx=>hs x (List.mem_append_left _ hx)) (fun x hx=>hp x (List.mem_append_left _ hx))
  ·exact qH hl (fun u hu=>hr u (List.mem_cons_of_mem _ hu)) h2 (fun x hx=>hs x (List.mem_append_right _ hx)) (fun x hx=>hp x (List.mem_append_right _ hx))
 |[],[],_::_,_,_,h,_,_=>by simp[DataW.TrodAll]at h
 |[],_::_,_,_,_,h,_,_=>by simp[DataW.TrodAll]at h
 |_::_,[],_,_,_,h,_,_=>by simp[DataW.TrodAll]at h
 |_::_,_::_,[],_,_,h,_,_=>by simp[DataW.TrodAll]at h
theorem pf {W:World} {base:Nat} {sp:Nat→Bool} {held:Bool}:∀{ts:List TypeId} {vs:List Value} {ds:List (DataW H)} {ps:List MemPlace},DataW.TrodAll enc P W base sp held ts vs ds ps→ds.length=ts.length∧vs.length=ts.length
 |[],[],[],_,_=>⟨rfl,rfl⟩
 |t::ts,v::vs,d::ds,ps,h=>by
  obtain⟨p,q,_,h2,_⟩:=h;have:=pf h2;simp[this.1,this.2]
 |[],[],_::_,_,h=>by simp[DataW.TrodAll]at h
 |[],_::_,_,_,h=>by simp[DataW.TrodAll]at h
 |_::_,[],_,_,h=>by simp[DataW.TrodAll]at h
 |_::_,_::_,[],_,h=>by simp[DataW.TrodAll]at h
theorem Ks {f:Func} {s:ChangeSpec} {apart fresh:Bool} {W W':World} {args:Array Value} {ds gs:List (DataW H)} {before:List MemPlace} {tb:TypeId}
 (hW:DataW.Whole enc P f.params.toList s.vars apart W args.toList ds gs before) (Uu:s.vars=[]) (GI:f.resultTypes= #[tb]) (hb:P.underlying tb=some .bool)
 (hl:laidOutB P=true) (hp:∀t∈f.params.toList,P.readableRec t=true∧t<P.types.size) (hs:s.fn H ds={results:=[.lit (.bool true)],args:=ds}) (V5:Below W.heap.size W W'):
 s.post enc P f apart fresh false false W args (.bool true) W':=by
 have hW':=hW;have bH:∀p∈before,p.block<W.heap.size:=fun p hp=>hW.lt p hp;have hold:∀p∈before,(fun b=>decide (b<W.heap.size)) p.block=true:=fun p hp=>by simpa using bH p hp
 obtain⟨p,q,hA,hV,rfl,hz,hn⟩:=hW;rw[Uu]at hV;obtain⟨rfl,rfl⟩:=trodVars_none hV;simp only[List.append_nil]at*
 have ke:∀sp:Nat→Bool,(∀x∈p,sp x.block=true)→DataW.TrodAll enc P W' 0 sp true f.params.toList args.toList (s.fn H ds).args p:=fun sp Yz=>by
  rw[hs];exact qH hl hp hA (fun x hx=>V5.same (bH x hx)) Yz
 have QT:∀sp:Nat→Bool,DataW.TrodVars enc P W' sp s.vars (s.fn H ds).vars []:=fun sp=>by rw[hs,Uu];rfl
 have hr:∀(b:Nat) (sp:Nat→Bool) (hd:Bool),DataW.TrodAll enc P W' b sp hd f.resultTypes.toList ((Value.bool true).resultList f.resultTypes.size) (s.fn H ds).results []:=fun b sp hd=>by
  rw[hs,GI];exact trodAll_mk1 (shut_bool hb true)
 have NQ:=ok_one (W':=W') (v:=.bool true) GI rfl (okWide_bool_mk hb true);refine⟨ds,[],p,[],p,[],hW',by simpa using hr _ _ _,by simpa using ke _ hold,by simpa using QT _,World.keptBut_mono (fun x hx=>⟨hx,?_⟩) (V5.frame _),fun _=>?_⟩
 ·exact Or.inr (by simpa using hx)
 ·refine⟨NQ,_,_,([]++p)++[],⟨[]++p,[],trodAll_append (by simpa using ke _ (fun _ _=>rfl)) (by simpa using hr _ _ _),by simpa using QT _,rfl,?_,?_⟩,?_⟩
  ·intro b off rY;have MS:MemPlace.cell b off∈p:=by simpa using rY
   have:=bH _ MS;rw[V5.frozen (p:=⟨b,off,none⟩) this];exact hz b off (by simpa using MS)
  ·intro ha;have:=hn ha;simpa using this
  ·intro x hx _;simpa using hx
def NR (P:Program):List TypeId→List IntKind→Bool
 |[],[]=>true
 |t::ts,k::ks=>(match P.underlying t with|some (.int k')=>decide (k'=k)|_=>false)&&NR P ts ks
 |_,_=>false
def afh (P:Program) (t:TypeId) (ks:List IntKind):Bool:=
 match P.underlying t,P.cellTypes P.depth t with
 |some (.struct _),some ts=>Nat.beq (P.cellsOf t) ts.length&&NR P ts ks
 |_,_=>false
end
end Go.M
