/-
  Part 4 of the library that the proof leans on.
-/
import Derived.Test.YtjklkjjfnipcnaaGreatDoorL3
import Derived.Carry
import Derived.OpenShut
import Derived.KernelRfl
import Derived.WalkKit
import Derived.ProofKit
noncomputable section
namespace Go.M
open Go
structure Aj (ops:List Oper) (hs:Nat→ab) (lg:Nat→cg):Prop where
 kind:∀j,j<ops.length→(lg j= .pure∧hs (j+1)=hs j)∨(∃q,lg j= .rd q (hs j)∧hs (j+1)=hs j∧q.cO<(hs j).size)∨
  (∃md:Made,lg j= .alloc (hs j) (hs (j+1))∧hs (j+1)=(hs j).push (md.obj (hs j).size))∨(lg j= .ck (hs j) (hs (j+1))∧(hs j).size≤(hs (j+1)).size)
 pass:∀i j,i<j→j<ops.length→aN (a6 ops []) i (lg i) j (lg j)=true
def Al (ops:List Oper) (hs:Nat→ab) (lg:Nat→cg) (j:Nat) (md:Made):Prop:=
 j<ops.length∧lg j= .alloc (hs j) (hs (j+1))∧hs (j+1)=(hs j).push (md.obj (hs j).size)
section
variable {E:Env} {base B:Nat} {ops:List Oper} {hs:Nat→ab} {lg:Nat→cg}
theorem Aj.step (X:Aj ops hs lg) {j:Nat} (hj:j<ops.length):(hs j).size≤(hs (j+1)).size:=by
 rcases X.kind j hj with⟨_,h⟩|⟨q,_,h,_⟩|⟨md,_,h⟩|⟨_,h⟩
 ·rw[h];exact Nat.le_refl _
 ·rw[h];exact Nat.le_refl _
 ·rw[h,ab.size_push];omega
 ·exact h
theorem Aj.mono (X:Aj ops hs lg) {i:Nat}:∀{j:Nat},i≤j→j≤ops.length→(hs i).size≤(hs j).size:=by
 intro j
 induction j with
 |zero=>intro h _;rw[Nat.le_zero.1 h];exact Nat.le_refl _
 |succ j ih=>
  intro h hj;by_cases e:i=j+1
  ·subst e;exact Nat.le_refl _
  ·exact Nat.le_trans (ih om om) (X.step om)
theorem Al.size {j:Nat} {md:Made} (h:Al ops hs lg j md):(hs (j+1)).size=(hs j).size+1:=by rw[h.2.2];rfl
theorem Al.inj (X:Aj ops hs lg) {i j:Nat} {md wa:Made} (h:Al ops hs lg i md) (k:Al ops hs lg j wa) (e:(hs i).size=(hs j).size):i=j:=by
 rcases Nat.lt_trichotomy i j with hl|hl|hl
 ·have:=X.mono (i:=i+1) (j:=j) hl (by have:=k.1;omega);rw[h.size]at this;omega
 ·exact hl
 ·have:=X.mono (i:=j+1) (j:=i) hl (by have:=h.1;omega);rw[k.size]at this;omega
theorem qP (md:Made) (b:Nat):∀cs f cp aE,md.obj b= .cells cs f cp aE→f=b∧cp=b:=by
 intro cs f cp aE h;cases md<;>simp[Made.obj]at h;exact⟨h.2.1.symm,h.2.2.1.symm⟩
theorem Aj.chain (X:Aj ops hs lg) {q:RQ} {lo:Nat} (hb:q.cO<(hs lo).size):∀{hi:Nat},lo≤hi→hi≤ops.length→
 (∀i,lo≤i→i<hi→((lg i= .ck (hs i) (hs (i+1)))→eD (hs i) (hs (i+1)) q=true)∧((lg i= .alloc (hs i) (hs (i+1)))→oH (hs i) q=true))→q.run (hs hi)=q.run (hs lo):=by
 intro hi
 induction hi with
 |zero=>intro h _ _;rw[Nat.le_zero.1 h]
 |succ k ih=>
  intro h hk jG;by_cases e:lo=k+1
  ·subst e;rfl
  ·have h1:=ih om om fun i Pz Ms=>jG i Pz om;rw[←h1];have UP:q.cO<(hs k).size:=Nat.lt_of_lt_of_le hb (X.mono om om);rcases X.kind k om with⟨_,h⟩|⟨q',_,h,_⟩|⟨md,h,h'⟩|⟨h,_⟩
   ·rw[h]
   ·rw[h]
   ·rw[h'];exact G3 ((jG k om om).2 h) UP
   ·exact Cr ((jG k om om).1 h) UP
structure Core (E:Env) (base B:Nat) (ops:List Oper) (hs:Nat→ab) (lg:Nat→cg) (eo:aS) (w0:World) (c:Nat) (L:Nat→Bool) (μ:aS) (w:World):Prop where
 cN:c≤ops.length
 ux:∀j h h',j<ops.length→lg j= .ck h h'→(L j=true↔j<c)
 rel:aM E base B (cut μ (hs c).size) (hs c) w
 Cs:eo.le μ
 grow:Grow base eo w0 w
 new:∀b m,eo b=none→μ b=some m→(hs 0).size≤b∧base≤b∧(w0.heap.size≤m.r∨∃b0 m0,base≤b0∧eo b0=some m0∧m0.r=m.r)
 zC:∀b,b<(hs 0).size→eo b=none→(hs c).get b=(hs 0).get b
 late:∀j md,j<c→Al ops hs lg j md→L j=false→μ (hs j).size=none∧(hs c).get (hs j).size=some (md.obj (hs j).size)
 PA:∀j md,c≤j→Al ops hs lg j md→L j=true→∃m,μ (hs j).size=some m
 uy:∀b m,(hs c).size≤b→μ b=some m→∃j md o',c≤j∧L j=true∧Al ops hs lg j md∧b=(hs j).size∧w.heap[m.r]? =some o'∧(w0.heap.size≤m.r∧m.s=0)∧
  ∀az h b',(cut μ (hs j).size).le az→fR az h base b' m (md.obj b') o'
 apart:∀b1 b2 m1 m2,(hs c).size≤b1→μ b1=some m1→μ b2=some m2→m1.r=m2.r→b1=b2
def mN (L:Nat→Bool) (k:Nat):Nat→Bool:=fun j=>if j=k then true else L j
theorem nE (L:Nat→Bool) (k:Nat):mN L k k=true:=by simp[mN]
theorem eJ {L:Nat→Bool} {k j:Nat} (h:j≠k):mN L k j=L j:=by simp[mN,h]
theorem lF {L:Nat→Bool} {k j:Nat} (h:L j=true):mN L k j=true:=by unfold mN;split<;>simp[h]
variable {eo:aS} {w0:World} {c:Nat} {L:Nat→Bool} {μ:aS} {w:World}
theorem Core.go (X:Aj ops hs lg) (C:Core E base B ops hs lg eo w0 c L μ w) (hc:c<ops.length) (aX:∀h h',lg c≠ .ck h h') (hB:B≤w0.heap.size) (te:base≤(hs 0).size):Core E base B ops hs lg eo w0 (c+1) L μ w:=by
 have PB:∀j h h',j<ops.length→lg j= .ck h h'→(L j=true↔j<c+1):=fun j h h' hj hl=>by
  rw[C.ux j h h' hj hl];constructor
  ·intro h;omega
  ·intro h1;have:j≠c:=fun e=>by subst e;exact aX _ _ hl
   omega
 have same:hs (c+1)=hs c→(∀md,¬Al ops hs lg c md)→Core E base B ops hs lg eo w0 (c+1) L μ w:=by
  intro e yB;refine⟨hc,PB,by rw[e];exact C.rel,C.Cs,C.grow,C.new,by rw[e];exact C.zC,?_,?_,?_,by rw[e];exact C.apart⟩
  ·intro j md hj dx hl;rw[e];have:j≠c:=fun h=>by subst h;exact yB _ dx
   exact C.late j md om dx hl
  ·intro j md hj;exact C.PA j md om
  ·rw[e];intro b m hb hm;obtain⟨j,md,o',k1,k2,k3,k4⟩:=C.uy b m hb hm;have:j≠c:=fun h=>by subst h;exact yB _ k3
   exact⟨j,md,o',om,k2,k3,k4⟩
 rcases X.kind c hc with⟨h1,h2⟩|⟨q,h1,h2,_⟩|⟨md,h1,h2⟩|⟨h1,_⟩
 ·exact same h2 fun md ha=>by have:=ha.2.1;rw[h1]at this;cases this
 ·exact same h2 fun md ha=>by have:=ha.2.1;rw[h1]at this;cases this
 ·have dx:Al ops hs lg c md:=⟨hc,h1,h2⟩;have cI:=dx.size;have tR:=X.mono (i:=0) (j:=c) (Nat.zero_le _) C.cN;have jz:=qP md (hs c).size;have Hp:aM E base B (cut μ (hs c).size) (hs (c+1)) w:=by rw[h2];exact C.rel.DA fun cs f cp aE e=>(jz cs f cp aE e).1
  have b7:(hs (c+1)).get (hs c).size=some (md.obj (hs c).size):=by rw[h2,ab.ai,if_pos rfl]
  have hold:∀b,b<(hs c).size→(hs (c+1)).get b=(hs c).get b:=fun b hb=>by rw[h2,ab.ai,if_neg om]
  have px:aM E base B (cut μ (hs (c+1)).size) (hs (c+1)) w:=by
   cases hm:μ (hs c).size with
   |none=>
    have e:cut μ (hs (c+1)).size=cut μ (hs c).size:=by
     funext b
     unfold cut;by_cases e1:b<(hs c).size
     ·rw[if_pos e1,if_pos om]
     ·rw[if_neg e1];split
      ·have:b=(hs c).size:=by omega
       rw[this];exact hm
      ·rfl
    rw[e];exact Hp
   |some m=>
    have e:cut μ (hs (c+1)).size=il (cut μ (hs c).size) (hs c).size m:=by
     funext b
     unfold cut il;by_cases e1:b=(hs c).size
     ·subst e1;rw[if_pos om,if_pos rfl,hm]
     ·rw[if_neg e1];show _=if b<(hs c).size then μ b else none
      by_cases e2:b<(hs c).size
      ·rw[if_pos e2,if_pos om]
      ·rw[if_neg e2,if_neg om]
    obtain⟨j,wa,o',k1,k2,k3,k4,k5,k6,k7⟩:=C.uy _ m (Nat.le_refl _) hm;have VW:j=c:=(Al.inj X dx k3 k4).symm;subst VW;have Lt:wa.obj (hs j).size=md.obj (hs j).size:=by
     have h3:=k3.2.2;have:(hs (j+1)).get (hs j).size=some (wa.obj (hs j).size):=by rw[h3,ab.ai,if_pos rfl]
     rw[b7]at this;exact(Option.some.inj this).symm
    rw[e];refine Hp.Ai om b7 (by unfold cut;rw[if_neg om]) om om k5 ?_ (fun cs f cp aE e=>⟨(jz cs f cp aE e).1,Nat.le_of_eq (jz cs f cp aE e).2.symm⟩) (fun _ _ _=>k6.2) ?_
    ·intro d UQ hd he;have zI:=bI.1 hd;have:=C.apart _ _ _ _ (Nat.le_refl _) hm zI.2 he.symm;omega
    ·rw[←Lt];exact k7 _ _ _ (by
      rw[←e];exact eP μ.le_refl om)
  refine⟨hc,PB,px,C.Cs,C.grow,C.new,?_,?_,?_,?_,?_⟩
  ·intro b hb h0;rw[hold b om];exact C.zC b hb h0
  ·intro j wa hj ha hl;by_cases e:j=c
   ·subst e;have Lt:wa.obj (hs j).size=md.obj (hs j).size:=by
     have h3:=ha.2.2;have:(hs (j+1)).get (hs j).size=some (wa.obj (hs j).size):=by rw[h3,ab.ai,if_pos rfl]
     rw[b7]at this;exact(Option.some.inj this).symm
    refine⟨?_,by rw[Lt];exact b7⟩;cases hm:μ (hs j).size with
    |none=>rfl
    |some m=>
     obtain⟨j',UQ,o',k1,k2,k3,k4,_⟩:=C.uy _ m (Nat.le_refl _) hm;have:j'=j:=(Al.inj X dx k3 k4).symm;subst this;rw[hl]at k2;cases k2
   ·obtain⟨q1,q2⟩:=C.late j wa om ha hl;have SE:(hs j).size<(hs c).size:=by
     have:=X.mono (i:=j+1) (j:=c) om C.cN;rw[ha.size]at this;omega
    exact⟨q1,by rw[hold _ SE];exact q2⟩
  ·intro j wa hj;exact C.PA j wa om
  ·intro b m hb hm;obtain⟨j,wa,o',k1,k2,k3,k4,k5⟩:=C.uy b m om hm;have:j≠c:=fun h=>by subst h;omega
   exact⟨j,wa,o',om,k2,k3,k4,k5⟩
  ·intro b1 b2 m1 m2 kL;exact C.apart b1 b2 m1 m2 om
 ·exact absurd h1 (aX _ _)
theorem Core.G4 (X:Aj ops hs lg) (hB:B≤w0.heap.size) (te:base≤(hs 0).size):∀(n:Nat) {c:Nat},Core E base B ops hs lg eo w0 c L μ w→c+n≤ops.length→(∀i,c≤i→i<c+n→∀h h',lg i≠ .ck h h')→Core E base B ops hs lg eo w0 (c+n) L μ w
 |0,c,C,_,_=>C
 |n+1,c,C,hn,aX=>by
  have:=Core.G4 X hB te n (c:=c+1) (C.go X om (aX c (Nat.le_refl _) om) hB te) om (fun i h1 h2=>aX i om om);rw[show c+(n+1)=c+1+n by omega];exact this
theorem Core.pQ (C:Core E base B ops hs lg eo w0 c L μ w) {k:Nat} (h1:∀h h',lg k≠ .ck h h') (h2:∀h h',lg k≠ .alloc h h'):Core E base B ops hs lg eo w0 c (mN L k) μ w:=by
 have dx:∀{j md},Al ops hs lg j md→j≠k:=fun ha e=>by subst e;exact h2 _ _ ha.2.1
 refine⟨C.cN,?_,C.rel,C.Cs,C.grow,C.new,C.zC,?_,?_,?_,C.apart⟩
 ·intro j h h' hj hl;rw[eJ (fun e=>by subst e;exact h1 _ _ hl)];exact C.ux j h h' hj hl
 ·intro j md hj ha hl;rw[eJ (dx ha)]at hl;exact C.late j md hj ha hl
 ·intro j md hj ha hl;rw[eJ (dx ha)]at hl;exact C.PA j md hj ha hl
 ·intro b m hb hm;obtain⟨j,md,o',k1,k2,k3⟩:=C.uy b m hb hm;exact⟨j,md,o',k1,lF k2,k3⟩
end
section
variable {E:Env} {base B:Nat} {ops:List Oper} {hs:Nat→ab} {lg:Nat→cg}
variable {eo:aS} {w0:World} {c:Nat} {L:Nat→Bool} {μ:aS} {w w':World}
theorem Core.lt (C:Core E base B ops hs lg eo w0 c L μ w) {b:Nat} {m:MT} (hm:μ b=some m):m.r<w.heap.size:=by
 by_cases hb:b<(hs c).size
 ·exact C.rel.lt (bI.2 ⟨hb,hm⟩)
 ·obtain⟨j,md,o',_,_,_,_,k5,_⟩:=C.uy b m om hm;exact(Array.getElem?_eq_some_iff.1 k5).1
theorem Core.alloc (X:Aj ops hs lg) (C:Core E base B ops hs lg eo w0 c L μ w) (hB:B≤w0.heap.size) (te:base≤(hs 0).size) {k:Nat} {md:Made} (ha:Al ops hs lg k md) (hk:L k=false) {o':Obj} (hw:yi w o' w') {n:Nat}
 (EP:∀az h b',(cut μ (max (hs k).size (hs c).size)).le az→fR az h base b' ⟨w.heap.size,0,n⟩ (md.obj b') o'):
 μ.le (il μ (hs k).size ⟨w.heap.size,0,n⟩)∧Core E base B ops hs lg eo w0 c (mN L k) (il μ (hs k).size ⟨w.heap.size,0,n⟩) w':=by
 have cI:=ha.size;have tR:=X.mono (i:=0) (j:=k) (Nat.zero_le _) (by have:=ha.1;omega);have JC:∀{j:Nat} {wa:Made},Al ops hs lg j wa→(hs c).size≤(hs j).size→c≤j:=by
  intro j wa hj hle;by_cases h:c≤j
  ·exact h
  ·have:=X.mono (i:=j+1) (j:=c) om C.cN;rw[hj.size]at this;omega
 have PC:μ (hs k).size=none:=by
  by_cases RD:k<c
  ·exact(C.late k md RD ha hk).1
  ·cases hm:μ (hs k).size with
   |none=>rfl
   |some m=>
    obtain⟨j,wa,o2,k1,k2,k3,k4,_⟩:=C.uy _ m (X.mono om (by have:=ha.1;omega)) hm;have:k=j:=Al.inj X ha k3 k4;subst this;rw[hk]at k2;cases k2
 have hle:μ.le (il μ (hs k).size ⟨w.heap.size,0,n⟩):=dO PC;have jQ:∀{d:Nat} {md:MT},il μ (hs k).size ⟨w.heap.size,0,n⟩ d=some md→(d=(hs k).size∧md=⟨w.heap.size,0,n⟩)∨(d≠(hs k).size∧μ d=some md):=by
  intro d md hd;by_cases e:d=(hs k).size
  ·subst e;rw[bc]at hd;cases hd;exact .inl ⟨rfl,rfl⟩
  ·rw[lh _ _ e]at hd;exact .inr ⟨e,hd⟩
 have UR:=C.grow.size;have uz:∀r,r<w.heap.size→w'.heap[r]? =w.heap[r]? :=fun r hr=>by rw[hw.get,if_neg om]
 have jz:w'.heap[w.heap.size]? =some o':=by rw[hw.get,if_pos rfl]
 refine⟨hle,C.cN,?_,?_,aS.le_trans C.Cs hle,?_,?_,C.zC,?_,?_,?_,?_⟩
 ·intro j h h' hj hl;rw[eJ (fun e=>by subst e;have:=ha.2.1;rw[hl]at this;cases this)];exact C.ux j h h' hj hl
 ·by_cases RD:k<c
  ·have pJ:(hs k).size<(hs c).size:=by
    have:=X.mono (i:=k+1) (j:=c) om C.cN;omega
   have e:cut (il μ (hs k).size ⟨w.heap.size,0,n⟩) (hs c).size=il (cut μ (hs c).size) (hs k).size ⟨w.heap.size,0,n⟩:=by
    funext b
    unfold cut il;by_cases e1:b=(hs k).size
    ·subst e1;rw[if_pos pJ];simp
    ·rw[if_neg e1];rw[if_neg e1]
   obtain⟨q1,q2⟩:=C.late k md RD ha hk;have Er:max (hs k).size (hs c).size=(hs c).size:=Nat.max_eq_right om;rw[e];refine(C.rel.Sz hw).Ai pJ q2 (by unfold cut;rw[if_pos pJ];exact q1) om (by show B≤w.heap.size;omega) jz ?_ (fun cs f cp aE e=>⟨(qP md _ cs f cp aE e).1,Nat.le_of_eq (qP md _ cs f cp aE e).2.symm⟩) (fun _ _ _=>rfl) ?_
   ·intro d UQ hd he;have:=C.lt (bI.1 hd).2;simp only at he;omega
   ·refine EP _ _ _ ?_;rw[Er];exact dO (by unfold cut;rw[if_pos pJ];exact q1)
  ·have pJ:(hs c).size≤(hs k).size:=X.mono om (by have:=ha.1;omega);have e:cut (il μ (hs k).size ⟨w.heap.size,0,n⟩) (hs c).size=cut μ (hs c).size:=by
    funext b
    unfold cut il;by_cases e1:b<(hs c).size
    ·rw[if_pos e1,if_pos e1,if_neg om]
    ·rw[if_neg e1,if_neg e1]
   rw[e];exact C.rel.Sz hw
 ·refine⟨hw.tape.trans C.grow.tape,hw.os.trans C.grow.os,hw.output.trans C.grow.output,by rw[hw.size];omega,fun r hr hk=>?_⟩;rw[uz r om];exact C.grow.bf r hr hk
 ·intro b m h0 hm;rcases jQ hm with⟨rfl,rfl⟩|⟨_,h2⟩
  ·exact⟨tR,om,.inl UR⟩
  ·exact C.new b m h0 h2
 ·intro j wa hj EG hl;have aX:j≠k:=fun e=>by subst e;rw[nE]at hl;cases hl
  rw[eJ aX]at hl;obtain⟨q1,q2⟩:=C.late j wa hj EG hl;exact⟨by rw[lh _ _ (fun e=>aX (Al.inj X EG ha e))];exact q1,q2⟩
 ·intro j wa hj EG hl;by_cases e:j=k
  ·subst e;exact⟨_,bc _ _ _⟩
  ·rw[eJ e]at hl;obtain⟨m,hm⟩:=C.PA j wa hj EG hl;exact⟨m,hle _ _ hm⟩
 ·intro b m hb hm;rcases jQ hm with⟨rfl,rfl⟩|⟨_,h2⟩
  ·have zE:=JC ha hb;have Er:max (hs k).size (hs c).size=(hs k).size:=Nat.max_eq_left hb;exact⟨k,md,o',zE,nE _ _,ha,rfl,jz,⟨UR,rfl⟩,fun az h b' qH=>EP az h b' (by rw[Er];exact aS.le_trans (eP hle (Nat.le_refl _)) qH)⟩
  ·obtain⟨j,wa,o2,k1,k2,k3,k4,k5,k6,k7⟩:=C.uy b m hb h2;exact⟨j,wa,o2,k1,lF k2,k3,k4,by rw[uz _ (C.lt h2)];exact k5,k6,fun az h b' qH=>k7 az h b' (aS.le_trans (eP hle (Nat.le_refl _)) qH)⟩
 ·intro b1 b2 m1 m2 kL h1 h2 he;rcases jQ h1 with⟨rfl,rfl⟩|⟨_,h1⟩<;>rcases jQ h2 with⟨rfl,rfl⟩|⟨_,h2⟩
  ·rfl
  ·have:=C.lt h2;simp only at he;omega
  ·have:=C.lt h1;simp only at he;omega
  ·exact C.apart b1 b2 m1 m2 kL h1 h2 he
theorem Core.ck (X:Aj ops hs lg) (C:Core E base B ops hs lg eo w0 c L μ w) (hc:c<ops.length) (he:lg c= .ck (hs c) (hs (c+1))) {b6:aS} {w1:World} (S:Step E base B (cut μ (hs c).size) (hs c) w b6 (hs (c+1)) w1):
 ∃az,μ.le az∧cut az (hs (c+1)).size=b6∧Core E base B ops hs lg eo w0 (c+1) (mN L c) az w1:=by
 have bA:=X.step hc;have J4:∀{j md},Al ops hs lg j md→j≠c:=fun ha e=>by subst e;have:=ha.2.1;rw[he]at this;cases this
 -- whoever is made early stands behind
 have PD:∀b m,(hs c).size≤b→μ b=some m→(hs (c+1)).size≤b:=by
  intro b m hb hm;obtain⟨j,md,o',k1,k2,k3,k4,_⟩:=C.uy b m hb hm;have:=J4 k3;rw[k4];exact X.mono om (by have:=k3.1;omega)
 let az:aS:=fun b=>if b<(hs (c+1)).size then b6 b else μ b
 have bO:∀b,b<(hs (c+1)).size→az b=b6 b:=fun b hb=>if_pos hb;have JC:∀b,(hs (c+1)).size≤b→az b=μ b:=fun b hb=>if_neg om;have hle:μ.le az:=by
  intro b m hm;by_cases hb:b<(hs (c+1)).size
  ·rw[bO b hb];refine S.le b m (bI.2 ⟨?_,hm⟩);by_cases h2:b<(hs c).size
   ·exact h2
   ·have:=PD b m om hm;omega
  ·rw[JC b om];exact hm
 have Ak:cut az (hs (c+1)).size=b6:=by
  funext b
  unfold cut;by_cases hb:b<(hs (c+1)).size
  ·rw[if_pos hb,bO b hb]
  ·rw[if_neg hb];cases hm:b6 b with
   |none=>rfl
   |some m=>have:=S.rel.dZ b m hm;omega
 have uz:∀b m,(hs c).size≤b→μ b=some m→w1.heap[m.r]? =w.heap[m.r]? :=by
  intro b m hb hm;refine S.grow.bf m.r (C.lt hm) fun b2 m2 qA Lu=>?_;have h2:=bI.1 qA;have:=C.apart b b2 m m2 hb hm h2.2 Lu.symm;omega
 have jQ:∀{b:Nat} {m:MT},az b=some m→(μ b=some m)∨(μ b=none∧b<(hs (c+1)).size∧(hs c).size≤b∧base≤b∧(w.heap.size≤m.r∨∃b0 m0,base≤b0∧b0<(hs c).size∧μ b0=some m0∧m0.r=m.r)):=by
  intro b m hm;cases h0:μ b with
  |some m0=>have:=hle b m0 h0;rw[hm]at this;cases this;exact .inl rfl
  |none=>
   by_cases hb:b<(hs (c+1)).size
   ·rw[bO b hb]at hm;have hn:cut μ (hs c).size b=none:=by unfold cut;split<;>first|exact h0|rfl
    obtain⟨q1,q2,q3⟩:=S.new b m hn hm;refine .inr ⟨rfl,hb,q1,q2,?_⟩;rcases q3 with q3|⟨b0,m0,q3,q4,q5⟩
    ·exact .inl q3
    ·have:=bI.1 q4;exact .inr ⟨b0,m0,q3,this.1,this.2,q5⟩
   ·rw[JC b om,h0]at hm;cases hm
 refine⟨az,hle,Ak,hc,?_,by rw[Ak];exact S.rel,aS.le_trans C.Cs hle,?_,?_,?_,?_,?_,?_,?_⟩
 ·intro j h h' hj hl;by_cases e:j=c
  ·subst e;rw[nE];simp
  ·rw[eJ e,C.ux j h h' hj hl];omega
 ·refine⟨S.grow.tape.trans C.grow.tape,S.grow.os.trans C.grow.os,S.grow.output.trans C.grow.output,Nat.le_trans C.grow.size S.grow.size,fun r hr hk=>?_⟩;rw[S.grow.bf r (Nat.lt_of_lt_of_le hr C.grow.size) ?_,C.grow.bf r hr hk];intro b m hb O7;have hm:=(bI.1 hb).2;cases h0:eo b with
  |some m0=>
   have:=C.Cs b m0 h0;rw[hm]at this;cases this;exact hk b m h0 O7
  |none=>
   obtain⟨_,_,h3⟩:=C.new b m h0 hm;rcases h3 with h3|⟨b0,m0,te,B7,Lg⟩
   ·omega
   ·have:=hk b0 m0 B7 (Lg.trans O7);omega
 ·intro b m h0 hm;rcases jQ hm with hm|⟨hn,kL,qA,BY,ON⟩
  ·exact C.new b m h0 hm
  ·have tR:=X.mono (i:=0) (j:=c) (Nat.zero_le _) C.cN;refine⟨om,BY,?_⟩;rcases ON with ON|⟨b0,m0,q1,q2,q3,q4⟩
   ·exact .inl (Nat.le_trans C.grow.size ON)
   ·cases tR:eo b0 with
    |some R5=>
     have:=C.Cs b0 R5 tR;rw[q3]at this;cases this;exact .inr ⟨b0,m0,q1,tR,q4⟩
    |none=>
     obtain⟨_,_,hx⟩:=C.new b0 m0 tR q3;rcases hx with hx|⟨b1,m1,r1,r2,r3⟩
     ·exact .inl om
     ·exact .inr ⟨b1,m1,r1,r2,r3.trans q4⟩
 ·intro b hb h0;have tR:=X.mono (i:=0) (j:=c) (Nat.zero_le _) C.cN;rw[S.zC b om ?_,C.zC b hb h0];cases hm:cut μ (hs c).size b with
  |none=>rfl
  |some m=>have:=(C.new b m h0 (bI.1 hm).2).1;omega
 ·intro j md hj ha hl;have aX:=J4 ha;rw[eJ aX]at hl;obtain⟨q1,q2⟩:=C.late j md om ha hl;have SE:(hs j).size<(hs c).size:=by
   have:=X.mono (i:=j+1) (j:=c) om C.cN;rw[ha.size]at this;omega
  have hn:cut μ (hs c).size (hs j).size=none:=by unfold cut;split<;>first|exact q1|rfl
  refine⟨?_,by rw[S.zC _ SE hn];exact q2⟩;rw[bO _ om];cases hm:b6 (hs j).size with
  |none=>rfl
  |some m=>have:=(S.new _ m hn hm).1;omega
 ·intro j md hj ha hl;rw[eJ (J4 ha)]at hl;obtain⟨m,hm⟩:=C.PA j md om ha hl;exact⟨m,hle _ _ hm⟩
 ·intro b m hb hm;rw[JC b hb]at hm;obtain⟨j,md,o',k1,k2,k3,k4,k5,k6,k7⟩:=C.uy b m om hm;have:=J4 k3;exact⟨j,md,o',om,lF k2,k3,k4,by rw[uz b m om hm];exact k5,k6,fun od h b' qH=>k7 od h b' (aS.le_trans (eP hle (Nat.le_refl _)) qH)⟩
 ·intro b1 b2 m1 m2 kL h1 h2 hr;rw[JC b1 kL]at h1;rcases jQ h2 with h2|⟨hn,_,qA,_,ON⟩
  ·exact C.apart b1 b2 m1 m2 om h1 h2 hr
  ·have VX:=C.lt h1;rcases ON with ON|⟨b0,m0,q1,q2,q3,q4⟩
   ·omega
   ·have:=C.apart b1 b0 m1 m0 om h1 q3 (hr.trans q4.symm);omega
end
section
variable {P:Program} {E:Env} {base B:Nat} {cf:dn} {rf:cP} {ops:List Oper} {fs:Nat→AF} {hs:Nat→ab} {vs:Nat→Value} {lg:Nat→cg}
variable {eo:aS} {w0:World} {a0:Act} {c:Nat} {L:Nat→Bool} {μ az:aS} {w w':World} {a:Act}
structure kP (ops:List Oper) (fs:Nat→AF) (hs:Nat→ab) (vs:Nat→Value) (eo:aS) (a0:Act) (c:Nat) (L:Nat→Bool) (μ:aS) (a:Act):Prop where
 size:a.tmps.size=(fs 0).n
 OO:a.defers=a0.defers
 w:∀(j:Nat) (o:Oper) (d:Tmp),ops[j]? =some o→L j=true→o.dst=some d→ak (cut μ (max (hs (j+1)).size (hs c).size)) (vs j) (a.tmps.getD d undef)
 old:∀d:Tmp,(∀(j:Nat) (o:Oper),ops[j]? =some o→L j=true→o.dst≠some d)→ak eo ((fs 0).get d) (a.tmps.getD d undef)
theorem kP.mono (S:kP ops fs hs vs eo a0 c L μ a) (hle:μ.le az) {c':Nat} (hc:(hs c).size≤(hs c').size):kP ops fs hs vs eo a0 c' L az a:=
 ⟨S.size,S.OO,fun j o d ho hl hd=>(S.w j o d ho hl hd).mono (eP hle om),S.old⟩
theorem kP.put (X:gP ops) (hd:dM (fs 0).n ops=true) (S:kP ops fs hs vs eo a0 c L μ a) {k:Nat} {o:Oper} (ho:ops[k]? =some o) (hk:L k=false) {v':Value}
 (hv:ak (cut μ (max (hs (k+1)).size (hs c).size)) (vs k) v'):kP ops fs hs vs eo a0 c (mN L k) μ (a.put o.dst v'):=by
 have b7:∀t,o.dst≠some t→(a.put o.dst v').tmps.getD t undef=a.tmps.getD t undef:=by
  intro t ht;cases hd:o.dst with
  |none=>rfl
  |some d=>
   rw[hd]at ht;have aX:d≠t:=fun h=>ht (by rw[h]);show(a.tmps.setIfInBounds d v').getD t undef=_;simp only[Array.getD_eq_getD_getElem?,Array.getElem?_setIfInBounds_ne aX]
 refine⟨?_,?_,?_,?_⟩
 ·rw[←S.size];cases o.dst with
  |none=>rfl
  |some d=>exact Array.size_setIfInBounds
 ·rw[←S.OO];cases o.dst<;>rfl
 ·intro j p d hp hl RE;by_cases e:j=k
  ·subst e;rw[ho]at hp;cases hp;have bO:d<a.tmps.size:=by
    rw[S.size];unfold dM at hd;have:=List.all_eq_true.1 hd o (List.mem_of_getElem? ho);rw[RE]at this;simpa using this
   have:(a.put o.dst v').tmps.getD d undef=v':=by
    rw[RE];show(a.tmps.setIfInBounds d v').getD d undef=v';simp[bO]
   rw[this];exact hv
  ·rw[eJ e]at hl;rw[b7 d (X.one k j o p d ho hp (fun h=>e h.symm) RE)];exact S.w j p d hp hl RE
 ·intro d zH;rw[b7 d (zH k o ho (nE _ _))];exact S.old d fun j p hp hl=>zH j p hp (lF hl)
theorem kP.skip (S:kP ops fs hs vs eo a0 c L μ a) {k:Nat} (hk:∀o,ops[k]? =some o→o.dst=none):kP ops fs hs vs eo a0 c (mN L k) μ a:=by
 refine⟨S.size,S.OO,fun j o d ho hl hd=>?_,fun d zH=>S.old d fun j p hp hl=>zH j p hp (lF hl)⟩;by_cases e:j=k
 ·subst e;rw[hk o ho]at hd;cases hd
 ·rw[eJ e]at hl;exact S.w j o d ho hl hd
theorem kP.look (X:gP ops) (T:Trace E base cf rf ops ops fs hs vs lg) (K:Aj ops hs lg) (fh:dM (fs 0).n ops=true) (qH:eo.le μ) (SF:∀b m,eo b=some m→b<(hs 0).size)
 (S:kP ops fs hs vs eo a0 c L μ a) (hC:lE ops L) {k:Nat} {o:Oper} (ho:ops[k]? =some o) (hk:L k=false) (hr:pO ops L o) {t:Tmp} (ht:t∈looks ops o):
 ak (cut μ (max (hs k).size (hs c).size)) ((fs k).get t) (a.tmps.getD t undef):=by
 have G5:k<ops.length:=(List.getElem?_eq_some_iff.1 ho).1;have tR:=K.mono (i:=0) (j:=k) (Nat.zero_le _) om;have Lv:(∀(j:Nat) (p:Oper),j<k→ops[j]? =some p→p.dst≠some t)→(∀(j:Nat) (p:Oper),ops[j]? =some p→L j=true→p.dst≠some t)→ak (cut μ (max (hs k).size (hs c).size)) ((fs k).get t) (a.tmps.getD t undef):=by
  intro h1 h2;rw[T.Cp t k om fun j p hj hp=>h1 j p hj hp];exact(S.old t h2).mono (yE qH fun b m hb=>by have:=SF b m hb;omega)
 by_cases hex:∃j p,ops[j]? =some p∧p.dst=some t∧j≠k
 ·obtain⟨j,p,hp,hd,aX⟩:=hex;have PE:=X.look k j o p t ho hp (fun h=>aX h.symm) hd ht;have Lx:∀(i:Nat) (q:Oper),ops[i]? =some q→q.dst=some t→i=j:=fun i q hq J5=>by
   by_cases e:i=j
   ·exact e
   ·exact absurd J5 (X.one i j q p t hq hp e hd)
  rcases Nat.lt_trichotomy j k with bO|he|VY
  ·have hl:=dD X hC bO ho hr (.inr PE);have PF:t<(fs 0).n:=by
    unfold dM at fh;have:=List.all_eq_true.1 fh p (List.mem_of_getElem? hp);rw[hd]at this;simpa using this
   rw[T.Cq X PF hp hd k om bO];exact(S.w j p t hp hl hd).mono (eP μ.le_refl (by have:=K.mono (i:=j+1) (j:=k) bO om;omega))
  ·exact absurd he aX
  ·have v8:L j=false:=by
    cases hl:L j with
    |false=>rfl
    |true=>
     have:=dD X hC VY hp (hC j p hp hl) (.inl PE);rw[hk]at this;cases this
   refine Lv (fun i q hi hq J5=>?_) (fun i q hq hl J5=>?_)
   ·have:=Lx i q hq J5;omega
   ·have:=Lx i q hq J5;subst this;rw[v8]at hl;cases hl
 ·refine Lv (fun i q hi hq J5=>hex ⟨i,q,hq,J5,om⟩) (fun i q hq hl J5=>?_);by_cases e:i=k
  ·subst e;rw[hk]at hl;cases hl
  ·exact hex ⟨i,q,hq,J5,e⟩
structure Inv (E:Env) (base B:Nat) (ops:List Oper) (fs:Nat→AF) (hs:Nat→ab) (vs:Nat→Value) (lg:Nat→cg) (eo:aS) (w0:World) (a0:Act) (L:Nat→Bool) (a:Act) (w:World):Prop where
 ex:∃c μ,Core E base B ops hs lg eo w0 c L μ w∧kP ops fs hs vs eo a0 c L μ a
theorem oS {k:Nat} {o:Oper} (hC:lE ops L) (ho:ops[k]? =some o) (hr:pO ops L o):lE ops (mN L k):=by
 intro j p hp hl e he hb;by_cases Py:j=k
 ·subst Py;rw[ho]at hp;cases hp;exact lF (hr e he hb)
 ·rw[eJ Py]at hl;exact lF (hC j p hp hl e he hb)
theorem yH (hE:aU P E) (sR:iR P E base B cf) (uf:hZ P E base B rf) (j6:ia E cf) (j7:fm rf) {F:Fence} (hF:c4 F) {n:Nat} {ops:Array Oper}
 (X:gP ops.toList) (T:Trace E base cf rf ops.toList ops.toList fs hs vs lg) (K:Aj ops.toList hs lg) (fh:dM (fs 0).n ops.toList=true) (H0:aM E base B eo (hs 0) w0)
 (I:Inv E base B ops.toList fs hs vs lg eo w0 a0 L a w) (hC:lE ops.toList L) {k:Nat} {o:Oper} (ho:ops[k]? =some o) (hk:L k=false) (hr:pO ops.toList L o)
 {next:Act→World→Prop} {Q:Exit→Act→World→Prop} (hn:∀a' w',Inv E base B ops.toList fs hs vs lg eo w0 a0 (mN L k) a' w'→next a' w'):
 if Region.wanted o (yielded ops a.tmps)=true then o.wpIn F n P a w next Q else(∀f,o.about P w a.eval=some f→F.fn f)∧next (a.put o.dst undef) w:=by
 obtain⟨c,μ,C,S⟩:=I.ex;have Ep:ops.toList[k]? =some o:=by simpa using ho
 have G5:k<ops.toList.length:=(List.getElem?_eq_some_iff.1 Ep).1;have hB:B≤w0.heap.size:=H0.low;have te:base≤(hs 0).size:=H0.jx;have PG:∀s,(hs 0).size≤s→eE E (cut μ s):=fun s PH g EN=>by
  obtain⟨m,q1,q2⟩:=H0.cd g EN;exact⟨m,bI.2 ⟨by have:=H0.dZ g m q1;omega,C.Cs _ _ q1⟩,q2⟩
 have X5:=K.mono (i:=0) (j:=k) (Nat.zero_le _) om
 have hf:bw (cut μ (max (hs k).size (hs c).size)) ((fs k).only (looks ops.toList o)) (sa a (looks ops.toList o)).tmps:=
  ur (by rw[S.size,T.EL k om]) fun t ht=>S.look X T K fh C.Cs H0.dZ hC Ep hk hr ht
 have SG:eE E (cut μ (max (hs k).size (hs c).size)):=PG _ om;have iy:Region.wanted o (yielded ops a.tmps)=wanted ops.toList o (fs k):=by
  rw[←lD,gO hf o,mK]
 have RD:(hs k).size≤(hs (k+1)).size:=K.step G5;rcases T.run k o Ep with⟨hw,bH⟩|⟨hw,hv,hh,se⟩
 ·rw[iy,if_pos hw];have SH:=noSelect bH;have yI:=yw bH;have Am:cV E base cf rf o ((fs k).only (looks ops.toList o)) (hs k)=some ⟨vs k,hs (k+1),lg k⟩:=by rw[Cj (w7 _ _ _)];exact bH
  have hex:execOp a.eval o=execOp (sa a (looks ops.toList o)).eval o:=w8 SH
  -- an operation that turns no memory
  have quiet:∀v',ak (cut μ (max (hs k).size (hs c).size)) (vs k) v'→(∀h h',lg k≠ .ck h h')→(∀h h',lg k≠ .alloc h h')→next (a.put o.dst v') w:=by
   intro v' hv h1 h2;exact hn _ _ ⟨c,μ,C.pQ h1 h2,S.put X fh Ep hk (hv.mono (eP μ.le_refl om))⟩
  rcases mL Am with⟨hp,hh,se⟩|⟨q,hq,hv,hh,se⟩|⟨md,hd,dx,hv,hh,se⟩|se
  ·-- plain
   obtain⟨v',q1,q2⟩:=nA hE SG hf hp;refine⟨fun _ _=>hF.fn _,?_⟩;rw[Oper.semAt_eq _ _ _ yI,hex,q2 w];exact quiet v' q1 (fun h h' e=>by simp only at se;rw[se]at e;cases e) (fun h h' e=>by simp only at se;rw[se]at e;cases e)
  ·-- a read
   simp only at hv hh se;have VZ:q.cO<(hs k).size:=by
    rcases K.kind k G5 with⟨h1,_⟩|⟨q',h1,_,h3⟩|⟨md,h1,_⟩|⟨h1,_⟩<;>rw[se]at h1<;>cases h1
    exact h3
   -- who may come between
   have An:∀i,i<ops.toList.length→i≠k→lg i= .alloc (hs i) (hs (i+1))→oH (hs i) q=true:=by
    intro i hi aX Gp;rcases Nat.lt_or_ge i k with h1|h1
    ·have hp:=K.pass i k h1 G5;rw[Gp,se]at hp;exact hp
    ·have hp:=K.pass k i om hi;rw[Gp,se]at hp;exact hp
   have jG:∀i,i<ops.toList.length→i≠k→(lg i= .ck (hs i) (hs (i+1))∧(c≤i∧i<k∨k<i∧i<c))→eD (hs i) (hs (i+1)) q=true:=by
    intro i hi aX pA
    ·obtain⟨SI,SJ⟩:=pA;have hL:=C.ux i _ _ hi SI;have US:=List.getElem?_eq_getElem (l:=ops.toList) (i:=i) hi;rcases SJ with⟨h1,h2⟩|⟨h1,h2⟩
     ·have hp:=K.pass i k h2 G5;rw[SI,se]at hp;simp only[aN,Bool.or_eq_true]at hp;rcases hp with hp|hp
      ·have:=hL.1 (dD X hC h2 Ep hr (.inl hp));omega
      ·exact hp
     ·have hp:=K.pass k i h1 hi;rw[SI,se]at hp;simp only[aN,Bool.or_eq_true]at hp;rcases hp with hp|hp
      ·have SK:=hL.2 h2;have:=dD X hC h1 US (hC i _ US SK) (.inl hp);rw[hk]at this;cases this
      ·exact hp
   obtain⟨v',q1,q2⟩:=EI (base:=base) (w:=w) hE hf SG (v:=vs k) hq (fun m hm=>by
    have PI:=(bI.1 hm).2;by_cases Pd:q.cO<(hs c).size
    ·refine⟨hs c,?_,?_⟩
     ·rcases Nat.le_total k c with MA|MA
      ·rw[K.chain VZ MA C.cN fun i h1 h2=>⟨fun h3=>?_,fun h3=>?_⟩];·exact hv
       ·have aX:i≠k:=fun e=>by
         subst e;rw[se]at h3;cases h3
        exact jG i (by have:=C.cN;omega) aX ⟨h3,.inr ⟨om,h2⟩⟩
       ·have aX:i≠k:=fun e=>by
         subst e;rw[se]at h3;cases h3
        exact An i (by have:=C.cN;omega) aX h3
      ·rw[←K.chain Pd MA om fun i h1 h2=>⟨fun h3=>?_,fun h3=>?_⟩];·exact hv
       ·exact jG i om om ⟨h3,.inl ⟨h1,h2⟩⟩
       ·exact An i om om h3
     ·obtain⟨p,p',k1,k2,k3⟩:=C.rel.obj q.cO m (bI.2 ⟨Pd,PI⟩);exact⟨p,p',k1,k2,k3.mono (eP μ.le_refl om) id⟩
    ·obtain⟨j,md,o',k1,k2,k3,k4,k5,k6,k7⟩:=C.uy q.cO m om PI;have Py:j<k:=by
      rcases Nat.lt_or_ge j k with h|h
      ·exact h
      ·have:=K.mono h (by have:=k3.1;omega);omega
     have zJ:=k3.size;refine⟨hs (j+1),?_,md.obj q.cO,o',?_,k5,?_⟩
     ·rw[←K.chain (lo:=j+1) (hi:=k) om Py om fun i h1 h2=>⟨fun h3=>?_,fun h3=>?_⟩];·exact hv
      ·exact jG i om om ⟨h3,.inl ⟨om,h2⟩⟩
      ·exact An i om om h3
     ·rw[k3.2.2,ab.ai,if_pos k4,←k4]
     ·exact k7 _ _ _ (eP μ.le_refl om))
   refine⟨fun _ _=>hF.fn _,?_⟩;rw[Oper.semAt_eq _ _ _ yI,hex,q2];exact quiet v' q1 (fun h h' e=>by rw[se]at e;cases e) (fun h h' e=>by rw[se]at e;cases e)
  ·-- a block is made
   simp only at hv hh se;obtain⟨o',k',X6,A⟩:=lr hE SG hf dx;have ha:Al ops.toList hs lg k md:=⟨G5,se,hh⟩;refine⟨fun _ _=>hF.fn _,?_⟩;rw[Oper.semAt_eq _ _ _ yI,hex,A.run w];obtain⟨hle,C'⟩:=C.alloc K hB te ha hk (yi.mk' w o') (n:=k') fun az h b' qH=>A.obj az h base b' _ qH;refine hn _ _ ⟨c,_,C',(S.mono hle (Nat.le_refl _)).put X fh Ep hk ?_⟩;rw[hv];refine A.val _ _ _ (bI.2 ⟨?_,bc _ _ _⟩);have:=ha.size;omega
  ·-- memory is turned
   have G6:lg k= .ck (hs k) (hs (k+1)):=se;have zE:c≤k:=by
    have:=C.ux k _ _ G5 G6;rw[hk]at this;rcases Nat.lt_or_ge k c with h|h
    ·exact absurd (this.2 h) (by simp)
    ·exact h
   have uA:∀i,c≤i→i<k→∀h h',lg i≠ .ck h h':=by
    intro i h1 h2 g g' e;have hL:=C.ux i _ _ om e;have hp:=K.pass i k h2 G5;rw[e,G6]at hp;simp only[aN]at hp;have:=hL.1 (dD X hC h2 Ep hr (.inl hp));omega
   have Ck:=C.G4 K hB te (k - c) om (fun i h1 h2=>uA i h1 om);rw[show c+(k - c)=k by omega]at Ck;have Er:max (hs k).size (hs c).size=(hs k).size:=Nat.max_eq_left (K.mono zE om);rw[Er]at hf;have Sk:kP ops.toList fs hs vs eo a0 k L μ a:=S.mono μ.le_refl (K.mono zE om);refine J3 hE sR uf j6 j7 hF hf Ck.rel Am hex fun b6 v' w1 q1 q2=>?_;obtain⟨az,e1,e2,C'⟩:=Ck.ck K G5 G6 q2;refine hn _ _ ⟨k+1,az,C',(Sk.mono e1 (K.step G5)).put X fh Ep hk ?_⟩;rw[Nat.max_self,e2];exact q1
 ·rw[iy,if_neg (by rw[hw];simp)];refine⟨fun _ _=>hF.fn _,hn _ _ ⟨c,μ,C.pQ (fun h h' e=>by rw[se]at e;cases e) (fun h h' e=>by rw[se]at e;cases e),S.put X fh Ep hk ?_⟩⟩;rw[hv];exact .undef _
end
theorem Ct {E:Env} {base:Nat} {cf:dn} {rf:cP} {all ops:List Oper} {fs:Nat→AF} {hs:Nat→ab} {vs:Nat→Value} {lg:Nat→cg} (T:Trace E base cf rf all ops fs hs vs lg) {fD:List cg}
 (hl:∀j,j<ops.length→fD[j]? =some (lg j)) (hp:fv (a6 ops []) 0 fD=true):Aj ops hs lg:=by
 obtain⟨k1,k2⟩:=sc hp;refine⟨fun j hj=>?_,fun i j EK hj=>?_⟩
 ·have hg:=k1 j _ (hl j hj);rcases T.run j _ (List.getElem?_eq_getElem hj)with⟨_,hr⟩|⟨_,_,h1,h2⟩
  ·rcases mL hr with⟨_,h1,h2⟩|⟨q,_,_,h1,h2⟩|⟨md,hd,_,_,h1,h2⟩|h2
   ·exact .inl ⟨h2,h1⟩
   ·simp only at h1 h2;rw[h2]at hg;exact .inr (.inl ⟨q,h2,h1,by simpa[ko]using hg⟩)
   ·exact .inr (.inr (.inl ⟨md,h2,h1⟩))
   ·simp only at h2;rw[h2]at hg;exact .inr (.inr (.inr ⟨h2,by simpa[ko]using hg⟩))
  ·exact .inl ⟨h2,h1⟩
 ·have:=k2 i j _ _ EK (hl i om) (hl j hj);simpa using this
def l8 (listed:Array Bool):Nat→Bool:=fun j=>listed.getD j false
theorem j8 {listed:Array Bool} {i:Nat} (hi:i<listed.size):l8 (listed.setIfInBounds i true)=mN (l8 listed) i:=by
 funext j
 unfold l8 mN;by_cases e:j=i
 ·subst e;rw[if_pos rfl];simp[hi]
 ·rw[if_neg e];simp only[Array.getD_eq_getD_getElem?,Array.getElem?_setIfInBounds_ne (fun h=>e h.symm)]
theorem mem_ready {ops:Array Oper} {listed:Array Bool} {i:Nat} (hi:i∈Region.ready .any ops listed) (cI:listed.size=ops.size):
 ∃o,ops[i]? =some o∧i<listed.size∧l8 listed i=false∧pO ops.toList (l8 listed) o:=by
 unfold Region.ready at hi;simp only[List.mem_filter,List.mem_range,Bool.and_eq_true,Bool.not_eq_true']at hi;obtain⟨h1,h2,h3⟩:=hi;have h4:=Array.getElem?_eq_getElem h1;rw[h4]at h3;simp only[Option.map_some,Option.getD_some,Array.all_eq_true_iff_forall_mem,Bool.or_eq_true,Bool.not_eq_true']at h3;refine⟨_,h4,om,?_,fun e he hb=>?_⟩
 ·have bO:i<listed.size:=by omega
  unfold l8;simp only[Array.getD,bO,dif_pos]at h2 ⊢;exact h2
 ·rcases h3 e (by simpa using he)with h5|h5
  ·rw[hb]at h5;cases h5
  ·exact h5
theorem nF {ops:Array Oper} {listed:Array Bool} (X:gP ops.toList) (cI:listed.size=ops.size) (h:Region.ready .any ops listed=[]):∀j,j<ops.size→l8 listed j=true:=by
 intro j
 induction j using Nat.strongRecOn with
 |ind j ih=>
  intro hj;cases hl:l8 listed j with
  |true=>rfl
  |false=>
   have hm:j∈Region.ready .any ops listed:=by
    unfold Region.ready;simp only[List.mem_filter,List.mem_range,Bool.and_eq_true,Bool.not_eq_true'];have h4:=Array.getElem?_eq_getElem hj;refine⟨hj,?_,?_⟩
    ·have bO:j<listed.size:=by omega
     unfold l8 at hl;simp only[Array.getD,bO,dif_pos]at hl ⊢;exact hl
    ·rw[h4];simp only[Option.map_some,Option.getD_some,Array.all_eq_true_iff_forall_mem,Bool.or_eq_true,Bool.not_eq_true'];intro e he;cases hb:Region.binds .any e with
     |false=>exact .inl rfl
     |true=>
      have:=X.Px j _ (by rw[Array.getElem?_toList];exact h4) e (by simpa using he) hb;exact .inr (ih e.on this om)
   rw[h]at hm;cases hm
section
variable {P:Program} {E:Env} {base B:Nat} {cf:dn} {rf:cP} {fs:Nat→AF} {hs:Nat→ab} {vs:Nat→Value} {lg:Nat→cg}
variable {eo:aS} {w0:World} {a0:Act}
theorem G7 (hE:aU P E) (sR:iR P E base B cf) (uf:hZ P E base B rf) (j6:ia E cf) (j7:fm rf) {F:Fence} (hF:c4 F) {n:Nat} {ops:Array Oper}
 (X:gP ops.toList) (T:Trace E base cf rf ops.toList ops.toList fs hs vs lg) (K:Aj ops.toList hs lg) (fh:dM (fs 0).n ops.toList=true) (H0:aM E base B eo (hs 0) w0)
 {Q:Exit→Act→World→Prop} (hQ:∀L a w,(∀j,j<ops.size→L j=true)→Inv E base B ops.toList fs hs vs lg eo w0 a0 L a w→Q .normal a w):
 ∀(fuel:Nat) (listed:Array Bool) (a:Act) (w:World),listed.size=ops.size→listed.toList.count false≤fuel→lE ops.toList (l8 listed)→Inv E base B ops.toList fs hs vs lg eo w0 a0 (l8 listed) a w→
  wpAnyIn F n P .any ops Q fuel listed a w:=by
 intro fuel
 induction fuel with
 |zero=>
  intro listed a w cI G8 hC I;have lG:Region.ready .any ops listed=[]:=by
   apply List.eq_nil_iff_forall_not_mem.2;intro i hi;obtain⟨o,_,h2,h3,_⟩:=mem_ready hi cI;have jT:false∈listed.toList:=by
    unfold l8 at h3;simp only[Array.getD,h2,dif_pos]at h3;rw[←h3];exact List.mem_of_getElem? (by rw[Array.getElem?_toList];exact Array.getElem?_eq_getElem h2)
   have:=List.count_pos_iff.2 jT;omega
  exact⟨lG,hQ _ _ _ (nF X cI lG) I⟩
 |succ fuel ih=>
  intro listed a w cI G8 hC I;refine⟨fun lG=>hQ _ _ _ (nF X cI lG) I,fun i hi=>?_⟩;obtain⟨o,h1,h2,h3,h4⟩:=mem_ready hi cI;have tf:ops.toList[i]? =some o:=by simpa using h1
  refine wpOpIn_step h1 fun K' PJ=>?_;refine yH hE sR uf j6 j7 hF X T K fh H0 I hC h1 h3 h4 fun a' w' I'=>PJ _ _ (ih _ _ _ ?_ ?_ ?_ ?_)
  ·rw[Array.size_setIfInBounds];exact cI
  ·rw[Array.toList_setIfInBounds,List.count_set (by simpa using h2)];have b7:listed.toList[i]'(by simpa using h2)=false:=by
    unfold l8 at h3;simp only[Array.getD,h2,dif_pos]at h3;simpa using h3
   have jT:false∈listed.toList:=by rw[←b7];exact List.getElem_mem _
   have pH:=List.count_pos_iff.2 jT;rw[b7];have e1:(if(true==false)=true then 1 else 0)=0:=rfl;have e2:(if(false==false)=true then 1 else 0)=1:=rfl;omega
  ·rw[j8 h2];exact oS hC tf h4
  ·rw[j8 h2];exact I'
theorem yJ (hE:aU P E) (hm:P.follows .mixedOrders=true):yz P E base B:=by
 intro cf rf sR uf j6 j7 ops f h f' h' fD bA fh bH ot μ a w hf H F n id Q hF hQ;obtain⟨fs,hs,vs,lg,T,e1,e2,e3,e4,e5⟩:=pL bH;have X:=uv bA;have K:=Ct T e5 ot;refine wpIn_region_any hm ?_;have H0:aM E base B μ (hs 0) {w with drawn:=w.drawn+1}:=by rw[e2];exact H.congr rfl
 have zK:∀j,l8 (Array.replicate ops.size false) j=false:=by
  intro j;unfold l8;by_cases hj:j<ops.size
  ·simp[hj]
  ·simp[hj]
 have Ak:cut μ (hs 0).size=μ:=by
  funext b
  unfold cut;split
  ·rfl
  ·cases hb:μ b with
   |none=>rfl
   |some m=>have:=H0.dZ b m hb;omega
 have I0:Inv E base B ops.toList fs hs vs lg μ {w with drawn:=w.drawn+1} a (l8 (Array.replicate ops.size false)) a {w with drawn:=w.drawn+1}:=by
  refine⟨0,μ,⟨Nat.zero_le _,?_,by rw[Ak];exact H0,μ.le_refl,.refl _ _ _,?_,fun _ _ _=>rfl,?_,?_,?_,?_⟩,⟨?_,rfl,?_,?_⟩⟩
  ·intro j h h' _ _;rw[zK];simp
  ·intro b m h0 h1;rw[h0]at h1;cases h1
  ·intro j md hj;omega
  ·intro j md _ _ hl;rw[zK]at hl;cases hl
  ·intro b m hb hm;have:=H0.dZ b m hm;omega
  ·intro b1 b2 m1 m2 kL h1;have:=H0.dZ b1 m1 h1;omega
  ·rw[e1];exact hf.n.symm
  ·intro j o d _ hl;rw[zK]at hl;cases hl
  ·intro d _;rw[e1];exact hf.get d
 refine G7 hE sR uf j6 j7 hF X T K (by rw[e1];exact fh) H0 (a0:=a) ?_ ops.size _ a _ (by simp) ?_ ?_ I0
 ·intro L a' w' iP I;obtain⟨c,az,C,S⟩:=I.ex;have hlen:ops.toList.length=ops.size:=by simp
  have Cn:=C.G4 K H0.low H0.jx (ops.toList.length - c) (by have:=C.cN;omega) (fun i h1 h2 g g' hl=>by
   have h3:i<ops.toList.length:=by have:=C.cN;omega
   have:=(C.ux i _ _ h3 hl).1 (iP i om);omega)
  have UT:=C.cN;rw[show c+(ops.toList.length - c)=ops.toList.length by omega]at Cn;have hle:μ.le (cut az (hs ops.toList.length).size):=yE Cn.Cs fun b m hb=>by
   have h1:=H0.dZ b m hb;have h2:=K.mono (i:=0) (j:=ops.toList.length) (Nat.zero_le _) (Nat.le_refl _);omega
  have St:Step E base B μ (hs 0) {w with drawn:=w.drawn+1} (cut az (hs ops.toList.length).size) (hs ops.toList.length) w':=
   ⟨Cn.rel,Cn.grow,hle,fun b m h0 h1=>Cn.new b m h0 (bI.1 h1).2,Cn.zC,K.mono (Nat.zero_le _) (Nat.le_refl _)⟩
  rw[e2,e4]at St;refine hQ _ a' w' ?_ S.OO ((Step.drawn H _).trans St);rw[←e3];refine⟨by rw[T.EL _ (Nat.le_refl _),S.size],fun t=>?_⟩;by_cases hex:∃(j:Nat) (o:Oper),ops.toList[j]? =some o∧o.dst=some t
  ·obtain⟨j,o,ho,hd⟩:=hex;have hj:j<ops.toList.length:=(List.getElem?_eq_some_iff.1 ho).1;have PF:t<(fs 0).n:=by
    rw[e1];unfold dM at fh;have:=List.all_eq_true.1 fh o (List.mem_of_getElem? ho);rw[hd]at this;simpa using this
   rw[T.Cq X PF ho hd _ (Nat.le_refl _) hj];refine(S.w j o t ho (iP j om) hd).mono ?_;rw[←e4];exact eP az.le_refl (by
    have h1:=K.mono (i:=j+1) (j:=ops.toList.length) om (Nat.le_refl _);have h2:=K.mono (i:=c) (j:=ops.toList.length) C.cN (Nat.le_refl _);omega)
  ·rw[T.Cp t _ (Nat.le_refl _) fun j o _ ho hd=>hex ⟨j,o,ho,hd⟩,←e4];exact(S.old t fun j o ho _ hd=>hex ⟨j,o,ho,hd⟩).mono hle
 ·simp
 ·intro j o ho hl;rw[zK]at hl;cases hl
end
def iz (P:Program) (mn:FuncId→List Value→ab→Option (Value×ab)):Env where
 desc:=fun t=>P.underlying t
 size:=fun t=>(P.info? t).map (·.size)
 bytes:=fun t=>(P.info? t).map (·.bytes)
 zero:=fun t=>(P.info? t).bind fun i=>i.zero.bind fun z=>aW (dz z) (some z)
 pq:=fun t=> !P.eqGuardType P.depth t&& !P.stoodInHeld t
 func:=fun g=>(P.funcs[g]?).bind fun fn=>aW (fn.body.isSome&& !(fn.name== "runtime.NumGoroutine")) (some fn)
 vY:=fun _=>none
 still:=fun _=>false
 mn:=fun _=>mn
theorem PK (P:Program) (mn:FuncId→List Value→ab→Option (Value×ab)):aU P (iz P mn):=by
 refine⟨fun t d h=>h,fun t n h=>?_,fun t n h=>?_,fun t z h=>?_,fun t h=>?_,fun f fn h=>?_⟩
 ·simp only[iz,Option.map_eq_some_iff]at h;obtain⟨i,h1,h2⟩:=h;exact⟨i,h1,h2⟩
 ·simp only[iz,Option.map_eq_some_iff]at h;obtain⟨i,h1,h2⟩:=h;exact⟨i,h1,h2⟩
 ·simp only[iz,Option.bind_eq_some_iff,ae,Option.some.injEq]at h;obtain⟨i,h1,z',h2,h3,rfl⟩:=h;exact⟨⟨i,h1,h2⟩,h3⟩
 ·simp only[iz,Bool.and_eq_true,Bool.not_eq_true']at h;exact h
 ·simp only[iz,Option.bind_eq_some_iff,ae,Option.some.injEq,Bool.and_eq_true,Bool.not_eq_true']at h;obtain⟨i,h1,⟨h2,h3⟩,rfl⟩:=h;exact⟨h1,h2,h3⟩
section
variable {P:Program} {E:Env} {base B:Nat}
theorem Ao (hE:aU P E) (hO:eZ P E base B) (hm:P.follows .mixedOrders=true) (n:Nat):iR P E base B (eI E base n):=
 GW hE hO (codeOk hE hO (yJ hE hm) n).1
def mO:FuncId→List Value→ab→Option (Value×ab):=fun _ _ _=>none
def tR:ab:=⟨.nil,0⟩
def PL:Option (Value×ab)→Bool
 |some (.bool b,_)=>b
 |_=>false
end
end Go.M
namespace Go.M
open Go Go.ChangeShapes Go.WideShapes Go.ChangeAt Go.RowKit
section
variable {H:Type} {enc:TypeId×Value→H} {P:Program}
theorem ou (hl:laidOutB P=true) {W W':World} {sp:Nat→Bool}:∀{ts:List TypeId} {vs:List Value} {ds:List (DataW H)} {ps:List MemPlace},(∀t∈ts,P.readableRec t=true∧t<P.types.size)→
 DataW.TrodAll enc P W 0 (fun _=>true) true ts vs ds ps→(∀p∈ps,W.sameAt W' p)→(∀p∈ps,sp p.block=true)→DataW.TrodAll enc P W' 0 sp true ts vs ds ps
 |[],[],[],ps,_,h,_,_=>h
 |t::ts,v::vs,d::ds,ps,hr,h,hs,hp=>by
  obtain⟨p,q,h1,h2,rfl⟩:=h;refine⟨p,q,?_,?_,rfl⟩
  ·exact WideElems.Trod_stays hl (hr t List.mem_cons_self).1 (hr t List.mem_cons_self).2 h1 (fun x hx=>hs x (List.mem_append_left _ hx)) (fun x hx=>hp x (List.mem_append_left _ hx))
  ·exact ou hl (fun u hu=>hr u (List.mem_cons_of_mem _ hu)) h2 (fun x hx=>hs x (List.mem_append_right _ hx)) (fun x hx=>hp x (List.mem_append_right _ hx))
 |[],[],_::_,_,_,h,_,_=>by simp[DataW.TrodAll]at h
 |[],_::_,_,_,_,h,_,_=>by simp[DataW.TrodAll]at h
 |_::_,[],_,_,_,h,_,_=>by simp[DataW.TrodAll]at h
 |_::_,_::_,[],_,_,h,_,_=>by simp[DataW.TrodAll]at h
theorem mP {W:World} {base:Nat} {sp:Nat→Bool} {held:Bool}:∀{ts:List TypeId} {vs:List Value} {ds:List (DataW H)} {ps:List MemPlace},DataW.TrodAll enc P W base sp held ts vs ds ps→ds.length=ts.length∧vs.length=ts.length
 |[],[],[],_,_=>⟨rfl,rfl⟩
 |t::ts,v::vs,d::ds,ps,h=>by
  obtain⟨p,q,_,h2,_⟩:=h;have:=mP h2;simp[this.1,this.2]
 |[],[],_::_,_,h=>by simp[DataW.TrodAll]at h
 |[],_::_,_,_,h=>by simp[DataW.TrodAll]at h
 |_::_,[],_,_,h=>by simp[DataW.TrodAll]at h
 |_::_,_::_,[],_,h=>by simp[DataW.TrodAll]at h
theorem ET {f:Func} {s:ChangeSpec} {apart fresh:Bool} {W W':World} {args:Array Value} {ds gs:List (DataW H)} {before:List MemPlace} {tb:TypeId}
 (hW:DataW.Whole enc P f.params.toList s.vars apart W args.toList ds gs before) (Ly:s.vars=[]) (kr:f.resultTypes= #[tb]) (hb:P.underlying tb=some .bool)
 (hl:laidOutB P=true) (hp:∀t∈f.params.toList,P.readableRec t=true∧t<P.types.size) (hs:s.fn H ds={results:=[.lit (.bool true)],args:=ds}) (MB:Below W.heap.size W W'):
 s.post enc P f apart fresh false false W args (.bool true) W':=by
 have V0:=hW;have bO:∀p∈before,p.block<W.heap.size:=fun p hp=>hW.lt p hp;have hold:∀p∈before,(fun b=>decide (b<W.heap.size)) p.block=true:=fun p hp=>by simpa using bO p hp
 obtain⟨p,q,hA,hV,rfl,hz,hn⟩:=hW;rw[Ly]at hV;obtain⟨rfl,rfl⟩:=trodVars_none hV;simp only[List.append_nil]at*
 have gH:∀sp:Nat→Bool,(∀x∈p,sp x.block=true)→DataW.TrodAll enc P W' 0 sp true f.params.toList args.toList (s.fn H ds).args p:=fun sp OP=>by
  rw[hs];exact ou hl hp hA (fun x hx=>MB.same (bO x hx)) OP
 have JD:∀sp:Nat→Bool,DataW.TrodVars enc P W' sp s.vars (s.fn H ds).vars []:=fun sp=>by rw[hs,Ly];rfl
 have hr:∀(b:Nat) (sp:Nat→Bool) (hd:Bool),DataW.TrodAll enc P W' b sp hd f.resultTypes.toList ((Value.bool true).resultList f.resultTypes.size) (s.fn H ds).results []:=fun b sp hd=>by
  rw[hs,kr];exact trodAll_mk1 (shut_bool hb true)
 have BZ:=ok_one (W':=W') (v:=.bool true) kr rfl (okWide_bool_mk hb true);refine⟨ds,[],p,[],p,[],V0,by simpa using hr _ _ _,by simpa using gH _ hold,by simpa using JD _,World.keptBut_mono (fun x hx=>⟨hx,?_⟩) (MB.frame _),fun _=>?_⟩
 ·exact Or.inr (by simpa using hx)
 ·refine⟨BZ,_,_,([]++p)++[],⟨[]++p,[],trodAll_append (by simpa using gH _ (fun _ _=>rfl)) (by simpa using hr _ _ _),by simpa using JD _,rfl,?_,?_⟩,?_⟩
  ·intro b off qA;have BY:MemPlace.cell b off∈p:=by simpa using qA
   have:=bO _ BY;rw[MB.frozen (p:=⟨b,off,none⟩) this];exact hz b off (by simpa using BY)
  ·intro ha;have:=hn ha;simpa using this
  ·intro x hx _;simpa using hx
def G9 (P:Program):List TypeId→List IntKind→Bool
 |[],[]=>true
 |t::ts,k::ks=>(match P.underlying t with|some (.int k')=>decide (k'=k)|_=>false)&&G9 P ts ks
 |_,_=>false
def UU (P:Program) (t:TypeId) (ks:List IntKind):Bool:=
 match P.underlying t,P.cellTypes P.depth t with
 |some (.struct _),some ts=>Nat.beq (P.cellsOf t) ts.length&&G9 P ts ks
 |_,_=>false
end
end Go.M
end
