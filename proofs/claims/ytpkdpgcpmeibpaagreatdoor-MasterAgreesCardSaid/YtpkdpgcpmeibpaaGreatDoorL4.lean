/-
  Part 4 of the library that the proof leans on.
-/
import Derived.Test.YtpkdpgcpmeibpaaGreatDoorL3
import Derived.Carry
import Derived.OpenShut
import Derived.KernelRfl
import Derived.WalkKit
import Derived.ProofKit
namespace Go.M
open Go
structure H9 (ops:List Oper) (hs:Nat→ab) (lg:Nat→eD):Prop where
 kind:∀j,j<ops.length→(lg j= .pure∧hs (j+1)=hs j)∨(∃q,lg j= .rd q (hs j)∧hs (j+1)=hs j∧q.dw<(hs j).size)∨
  (∃md:Made,lg j= .alloc (hs j) (hs (j+1))∧hs (j+1)=(hs j).push (md.obj (hs j).size))∨(lg j= .dE (hs j) (hs (j+1))∧(hs j).size≤(hs (j+1)).size)
 pass:∀i j,i<j→j<ops.length→bh (dq ops []) i (lg i) j (lg j)=true
def Al (ops:List Oper) (hs:Nat→ab) (lg:Nat→eD) (j:Nat) (md:Made):Prop:=
 j<ops.length∧lg j= .alloc (hs j) (hs (j+1))∧hs (j+1)=(hs j).push (md.obj (hs j).size)
section
variable {E:Env} {base B:Nat} {ops:List Oper} {hs:Nat→ab} {lg:Nat→eD}
theorem H9.step (X:H9 ops hs lg) {j:Nat} (hj:j<ops.length):(hs j).size≤(hs (j+1)).size:=by
 rcases X.kind j hj with⟨_,h⟩|⟨q,_,h,_⟩|⟨md,_,h⟩|⟨_,h⟩
 ·rw[h];exact Nat.le_refl _
 ·rw[h];exact Nat.le_refl _
 ·rw[h,ab.size_push];omega
 ·exact h
theorem H9.mono (X:H9 ops hs lg) {i:Nat}:∀{j:Nat},i≤j→j≤ops.length→(hs i).size≤(hs j).size:=by
 intro j
 induction j with
 |zero=>intro h _;rw[Nat.le_zero.1 h];exact Nat.le_refl _
 |succ j ih=>
  intro h hj;by_cases e:i=j+1
  ·subst e;exact Nat.le_refl _
  ·exact Nat.le_trans (ih om om) (X.step om)
theorem Al.size {j:Nat} {md:Made} (h:Al ops hs lg j md):(hs (j+1)).size=(hs j).size+1:=by rw[h.2.2];rfl
theorem Al.inj (X:H9 ops hs lg) {i j:Nat} {md AD:Made} (h:Al ops hs lg i md) (k:Al ops hs lg j AD) (e:(hs i).size=(hs j).size):i=j:=by
 rcases Nat.lt_trichotomy i j with hl|hl|hl
 ·have:=X.mono (i:=i+1) (j:=j) hl (by have:=k.1;omega);rw[h.size]at this;omega
 ·exact hl
 ·have:=X.mono (i:=j+1) (j:=i) hl (by have:=h.1;omega);rw[k.size]at this;omega
theorem vj (md:Made) (b:Nat):∀cs f di bd,md.obj b= .cells cs f di bd→f=b∧di=b:=by
 intro cs f di bd h;cases md<;>simp[Made.obj]at h;exact⟨h.2.1.symm,h.2.2.1.symm⟩
theorem H9.chain (X:H9 ops hs lg) {q:RQ} {lo:Nat} (hb:q.dw<(hs lo).size):∀{hi:Nat},lo≤hi→hi≤ops.length→
 (∀i,lo≤i→i<hi→((lg i= .dE (hs i) (hs (i+1)))→fX (hs i) (hs (i+1)) q=true)∧((lg i= .alloc (hs i) (hs (i+1)))→sj (hs i) q=true))→q.run (hs hi)=q.run (hs lo):=by
 intro hi
 induction hi with
 |zero=>intro h _ _;rw[Nat.le_zero.1 h]
 |succ k ih=>
  intro h hk lM;by_cases e:lo=k+1
  ·subst e;rfl
  ·have h1:=ih om om fun i hi1 hi2=>lM i hi1 om;rw[←h1];have hbk:q.dw<(hs k).size:=Nat.lt_of_lt_of_le hb (X.mono om om);rcases X.kind k om with⟨_,h⟩|⟨q',_,h,_⟩|⟨md,h,h'⟩|⟨h,_⟩
   ·rw[h]
   ·rw[h]
   ·rw[h'];exact N6 ((lM k om om).2 h) hbk
   ·exact H8 ((lM k om om).1 h) hbk
structure Core (E:Env) (base B:Nat) (ops:List Oper) (hs:Nat→ab) (lg:Nat→eD) (j7:bx) (w0:World) (c:Nat) (L:Nat→Bool) (μ:bx) (w:World):Prop where
 cN:c≤ops.length
 Fe:∀j h h',j<ops.length→lg j= .dE h h'→(L j=true↔j<c)
 rel:bt E base B (cut μ (hs c).size) (hs c) w
 Q0:j7.le μ
 grow:Grow base j7 w0 w
 new:∀b m,j7 b=none→μ b=some m→(hs 0).size≤b∧base≤b∧(w0.heap.size≤m.r∨∃b0 m0,base≤b0∧j7 b0=some m0∧m0.r=m.r)
 HJ:∀b,b<(hs 0).size→j7 b=none→(hs c).get b=(hs 0).get b
 late:∀j md,j<c→Al ops hs lg j md→L j=false→μ (hs j).size=none∧(hs c).get (hs j).size=some (md.obj (hs j).size)
 YX:∀j md,c≤j→Al ops hs lg j md→L j=true→∃m,μ (hs j).size=some m
 yw:∀b m,(hs c).size≤b→μ b=some m→∃j md o',c≤j∧L j=true∧Al ops hs lg j md∧b=(hs j).size∧w.heap[m.r]? =some o'∧(w0.heap.size≤m.r∧m.s=0)∧
  ∀a7 h b',(cut μ (hs j).size).le a7→iV a7 h base b' m (md.obj b') o'
 apart:∀b1 b2 m1 m2,(hs c).size≤b1→μ b1=some m1→μ b2=some m2→m1.r=m2.r→b1=b2
def sC (L:Nat→Bool) (k:Nat):Nat→Bool:=fun j=>if j=k then true else L j
theorem qT (L:Nat→Bool) (k:Nat):sC L k k=true:=by simp[sC]
theorem iA {L:Nat→Bool} {k j:Nat} (h:j≠k):sC L k j=L j:=by simp[sC,h]
theorem oT {L:Nat→Bool} {k j:Nat} (h:L j=true):sC L k j=true:=by unfold sC;split<;>simp[h]
variable {j7:bx} {w0:World} {c:Nat} {L:Nat→Bool} {μ:bx} {w:World}
theorem Core.go (X:H9 ops hs lg) (C:Core E base B ops hs lg j7 w0 c L μ w) (hc:c<ops.length) (bH:∀h h',lg c≠ .dE h h') (hB:B≤w0.heap.size) (we:base≤(hs 0).size):Core E base B ops hs lg j7 w0 (c+1) L μ w:=by
 have YY:∀j h h',j<ops.length→lg j= .dE h h'→(L j=true↔j<c+1):=fun j h h' hj hl=>by
  rw[C.Fe j h h' hj hl];constructor
  ·intro h;omega
  ·intro h1;have:j≠c:=fun e=>by subst e;exact bH _ _ hl
   omega
 have same:hs (c+1)=hs c→(∀md,¬Al ops hs lg c md)→Core E base B ops hs lg j7 w0 (c+1) L μ w:=by
  intro e Hz;refine⟨hc,YY,by rw[e];exact C.rel,C.Q0,C.grow,C.new,by rw[e];exact C.HJ,?_,?_,?_,by rw[e];exact C.apart⟩
  ·intro j md hj eP hl;rw[e];have:j≠c:=fun h=>by subst h;exact Hz _ eP
   exact C.late j md om eP hl
  ·intro j md hj;exact C.YX j md om
  ·rw[e];intro b m hb hm;obtain⟨j,md,o',k1,k2,k3,k4⟩:=C.yw b m hb hm;have:j≠c:=fun h=>by subst h;exact Hz _ k3
   exact⟨j,md,o',om,k2,k3,k4⟩
 rcases X.kind c hc with⟨h1,h2⟩|⟨q,h1,h2,_⟩|⟨md,h1,h2⟩|⟨h1,_⟩
 ·exact same h2 fun md ha=>by have:=ha.2.1;rw[h1]at this;cases this
 ·exact same h2 fun md ha=>by have:=ha.2.1;rw[h1]at this;cases this
 ·have eP:Al ops hs lg c md:=⟨hc,h1,h2⟩;have gB:=eP.size;have rP:=X.mono (i:=0) (j:=c) (Nat.zero_le _) C.cN;have lD:=vj md (hs c).size;have Hp:bt E base B (cut μ (hs c).size) (hs (c+1)) w:=by rw[h2];exact C.rel.Fc fun cs f di bd e=>(lD cs f di bd e).1
  have fo:(hs (c+1)).get (hs c).size=some (md.obj (hs c).size):=by rw[h2,ab.au,if_pos rfl]
  have hold:∀b,b<(hs c).size→(hs (c+1)).get b=(hs c).get b:=fun b hb=>by rw[h2,ab.au,if_neg om]
  have sk:bt E base B (cut μ (hs (c+1)).size) (hs (c+1)) w:=by
   cases hm:μ (hs c).size with
   |none=>
    have e:cut μ (hs (c+1)).size=cut μ (hs c).size:=by
     funext b
     unfold cut;by_cases e1:b<(hs c).size
     ·rw[if_pos e1,if_pos om]
     ·rw[if_neg e1];split
      ·have:b=(hs c).size:=by omega
       rw[this];exact hm
      ·rfl
    rw[e];exact Hp
   |some m=>
    have e:cut μ (hs (c+1)).size=kl (cut μ (hs c).size) (hs c).size m:=by
     funext b
     unfold cut kl;by_cases e1:b=(hs c).size
     ·subst e1;rw[if_pos om,if_pos rfl,hm]
     ·rw[if_neg e1];show _=if b<(hs c).size then μ b else none
      by_cases e2:b<(hs c).size
      ·rw[if_pos e2,if_pos om]
      ·rw[if_neg e2,if_neg om]
    obtain⟨j,AD,o',k1,k2,k3,k4,k5,k6,k7⟩:=C.yw _ m (Nat.le_refl _) hm;have hjc:j=c:=(Al.inj X eP k3 k4).symm;subst hjc;have hmd:AD.obj (hs j).size=md.obj (hs j).size:=by
     have h3:=k3.2.2;have:(hs (j+1)).get (hs j).size=some (AD.obj (hs j).size):=by rw[h3,ab.au,if_pos rfl]
     rw[fo]at this;exact(Option.some.inj this).symm
    rw[e];refine Hp.Bu om fo (by unfold cut;rw[if_neg om]) om om k5 ?_ (fun cs f di bd e=>⟨(lD cs f di bd e).1,Nat.le_of_eq (lD cs f di bd e).2.symm⟩) (fun _ _ _=>k6.2) ?_
    ·intro d md2 hd he;have Vt:=dR.1 hd;have:=C.apart _ _ _ _ (Nat.le_refl _) hm Vt.2 he.symm;omega
    ·rw[←hmd];exact k7 _ _ _ (by
      rw[←e];exact il μ.le_refl om)
  refine⟨hc,YY,sk,C.Q0,C.grow,C.new,?_,?_,?_,?_,?_⟩
  ·intro b hb h0;rw[hold b om];exact C.HJ b hb h0
  ·intro j AD hj ha hl;by_cases e:j=c
   ·subst e;have hmd:AD.obj (hs j).size=md.obj (hs j).size:=by
     have h3:=ha.2.2;have:(hs (j+1)).get (hs j).size=some (AD.obj (hs j).size):=by rw[h3,ab.au,if_pos rfl]
     rw[fo]at this;exact(Option.some.inj this).symm
    refine⟨?_,by rw[hmd];exact fo⟩;cases hm:μ (hs j).size with
    |none=>rfl
    |some m=>
     obtain⟨j',md2,o',k1,k2,k3,k4,_⟩:=C.yw _ m (Nat.le_refl _) hm;have:j'=j:=(Al.inj X eP k3 k4).symm;subst this;rw[hl]at k2;cases k2
   ·obtain⟨q1,q2⟩:=C.late j AD om ha hl;have hjs:(hs j).size<(hs c).size:=by
     have:=X.mono (i:=j+1) (j:=c) om C.cN;rw[ha.size]at this;omega
    exact⟨q1,by rw[hold _ hjs];exact q2⟩
  ·intro j AD hj;exact C.YX j AD om
  ·intro b m hb hm;obtain⟨j,AD,o',k1,k2,k3,k4,k5⟩:=C.yw b m om hm;have:j≠c:=fun h=>by subst h;omega
   exact⟨j,AD,o',om,k2,k3,k4,k5⟩
  ·intro b1 b2 m1 m2 nh;exact C.apart b1 b2 m1 m2 om
 ·exact absurd h1 (bH _ _)
theorem Core.Vu (X:H9 ops hs lg) (hB:B≤w0.heap.size) (we:base≤(hs 0).size):∀(n:Nat) {c:Nat},Core E base B ops hs lg j7 w0 c L μ w→c+n≤ops.length→(∀i,c≤i→i<c+n→∀h h',lg i≠ .dE h h')→Core E base B ops hs lg j7 w0 (c+n) L μ w
 |0,c,C,_,_=>C
 |n+1,c,C,hn,bH=>by
  have:=Core.Vu X hB we n (c:=c+1) (C.go X om (bH c (Nat.le_refl _) om) hB we) om (fun i h1 h2=>bH i om om);rw[show c+(n+1)=c+1+n by omega];exact this
theorem Core.Ff (C:Core E base B ops hs lg j7 w0 c L μ w) {k:Nat} (h1:∀h h',lg k≠ .dE h h') (h2:∀h h',lg k≠ .alloc h h'):Core E base B ops hs lg j7 w0 c (sC L k) μ w:=by
 have eP:∀{j md},Al ops hs lg j md→j≠k:=fun ha e=>by subst e;exact h2 _ _ ha.2.1
 refine⟨C.cN,?_,C.rel,C.Q0,C.grow,C.new,C.HJ,?_,?_,?_,C.apart⟩
 ·intro j h h' hj hl;rw[iA (fun e=>by subst e;exact h1 _ _ hl)];exact C.Fe j h h' hj hl
 ·intro j md hj ha hl;rw[iA (eP ha)]at hl;exact C.late j md hj ha hl
 ·intro j md hj ha hl;rw[iA (eP ha)]at hl;exact C.YX j md hj ha hl
 ·intro b m hb hm;obtain⟨j,md,o',k1,k2,k3⟩:=C.yw b m hb hm;exact⟨j,md,o',k1,oT k2,k3⟩
end
section
variable {E:Env} {base B:Nat} {ops:List Oper} {hs:Nat→ab} {lg:Nat→eD}
variable {j7:bx} {w0:World} {c:Nat} {L:Nat→Bool} {μ:bx} {w w':World}
theorem Core.lt (C:Core E base B ops hs lg j7 w0 c L μ w) {b:Nat} {m:MT} (hm:μ b=some m):m.r<w.heap.size:=by
 by_cases hb:b<(hs c).size
 ·exact C.rel.lt (dR.2 ⟨hb,hm⟩)
 ·obtain⟨j,md,o',_,_,_,_,k5,_⟩:=C.yw b m om hm;exact(Array.getElem?_eq_some_iff.1 k5).1
theorem Core.alloc (X:H9 ops hs lg) (C:Core E base B ops hs lg j7 w0 c L μ w) (hB:B≤w0.heap.size) (we:base≤(hs 0).size) {k:Nat} {md:Made} (ha:Al ops hs lg k md) (hk:L k=false) {o':Obj} (hw:EO w o' w') {n:Nat}
 (Lf:∀a7 h b',(cut μ (max (hs k).size (hs c).size)).le a7→iV a7 h base b' ⟨w.heap.size,0,n⟩ (md.obj b') o'):
 μ.le (kl μ (hs k).size ⟨w.heap.size,0,n⟩)∧Core E base B ops hs lg j7 w0 c (sC L k) (kl μ (hs k).size ⟨w.heap.size,0,n⟩) w':=by
 have gB:=ha.size;have rP:=X.mono (i:=0) (j:=k) (Nat.zero_le _) (by have:=ha.1;omega);have xI:∀{j:Nat} {AD:Made},Al ops hs lg j AD→(hs c).size≤(hs j).size→c≤j:=by
  intro j AD hj hle;by_cases h:c≤j
  ·exact h
  ·have:=X.mono (i:=j+1) (j:=c) om C.cN;rw[hj.size]at this;omega
 have N7:μ (hs k).size=none:=by
  by_cases hkc:k<c
  ·exact(C.late k md hkc ha hk).1
  ·cases hm:μ (hs k).size with
   |none=>rfl
   |some m=>
    obtain⟨j,AD,o2,k1,k2,k3,k4,_⟩:=C.yw _ m (X.mono om (by have:=ha.1;omega)) hm;have:k=j:=Al.inj X ha k3 k4;subst this;rw[hk]at k2;cases k2
 have hle:μ.le (kl μ (hs k).size ⟨w.heap.size,0,n⟩):=fZ N7;have mB:∀{d:Nat} {md:MT},kl μ (hs k).size ⟨w.heap.size,0,n⟩ d=some md→(d=(hs k).size∧md=⟨w.heap.size,0,n⟩)∨(d≠(hs k).size∧μ d=some md):=by
  intro d md hd;by_cases e:d=(hs k).size
  ·subst e;rw[bC]at hd;cases hd;exact .inl ⟨rfl,rfl⟩
  ·rw[ng _ _ e]at hd;exact .inr ⟨e,hd⟩
 have hgw:=C.grow.size;have JS:∀r,r<w.heap.size→w'.heap[r]? =w.heap[r]? :=fun r hr=>by rw[hw.get,if_neg om]
 have lD:w'.heap[w.heap.size]? =some o':=by rw[hw.get,if_pos rfl]
 refine⟨hle,C.cN,?_,?_,bx.le_trans C.Q0 hle,?_,?_,C.HJ,?_,?_,?_,?_⟩
 ·intro j h h' hj hl;rw[iA (fun e=>by subst e;have:=ha.2.1;rw[hl]at this;cases this)];exact C.Fe j h h' hj hl
 ·by_cases hkc:k<c
  ·have xH:(hs k).size<(hs c).size:=by
    have:=X.mono (i:=k+1) (j:=c) om C.cN;omega
   have e:cut (kl μ (hs k).size ⟨w.heap.size,0,n⟩) (hs c).size=kl (cut μ (hs c).size) (hs k).size ⟨w.heap.size,0,n⟩:=by
    funext b
    unfold cut kl;by_cases e1:b=(hs k).size
    ·subst e1;rw[if_pos xH];simp
    ·rw[if_neg e1];rw[if_neg e1]
   obtain⟨q1,q2⟩:=C.late k md hkc ha hk;have JL:max (hs k).size (hs c).size=(hs c).size:=Nat.max_eq_right om;rw[e];refine(C.rel.alc hw).Bu xH q2 (by unfold cut;rw[if_pos xH];exact q1) om (by show B≤w.heap.size;omega) lD ?_ (fun cs f di bd e=>⟨(vj md _ cs f di bd e).1,Nat.le_of_eq (vj md _ cs f di bd e).2.symm⟩) (fun _ _ _=>rfl) ?_
   ·intro d md2 hd he;have:=C.lt (dR.1 hd).2;simp only at he;omega
   ·refine Lf _ _ _ ?_;rw[JL];exact fZ (by unfold cut;rw[if_pos xH];exact q1)
  ·have xH:(hs c).size≤(hs k).size:=X.mono om (by have:=ha.1;omega);have e:cut (kl μ (hs k).size ⟨w.heap.size,0,n⟩) (hs c).size=cut μ (hs c).size:=by
    funext b
    unfold cut kl;by_cases e1:b<(hs c).size
    ·rw[if_pos e1,if_pos e1,if_neg om]
    ·rw[if_neg e1,if_neg e1]
   rw[e];exact C.rel.alc hw
 ·refine⟨hw.tape.trans C.grow.tape,hw.os.trans C.grow.os,hw.output.trans C.grow.output,by rw[hw.size];omega,fun r hr hk=>?_⟩;rw[JS r om];exact C.grow.bA r hr hk
 ·intro b m h0 hm;rcases mB hm with⟨rfl,rfl⟩|⟨_,h2⟩
  ·exact⟨rP,om,.inl hgw⟩
  ·exact C.new b m h0 h2
 ·intro j AD hj Uo hl;have bH:j≠k:=fun e=>by subst e;rw[qT]at hl;cases hl
  rw[iA bH]at hl;obtain⟨q1,q2⟩:=C.late j AD hj Uo hl;exact⟨by rw[ng _ _ (fun e=>bH (Al.inj X Uo ha e))];exact q1,q2⟩
 ·intro j AD hj Uo hl;by_cases e:j=k
  ·subst e;exact⟨_,bC _ _ _⟩
  ·rw[iA e]at hl;obtain⟨m,hm⟩:=C.YX j AD hj Uo hl;exact⟨m,hle _ _ hm⟩
 ·intro b m hb hm;rcases mB hm with⟨rfl,rfl⟩|⟨_,h2⟩
  ·have oz:=xI ha hb;have JL:max (hs k).size (hs c).size=(hs k).size:=Nat.max_eq_left hb;exact⟨k,md,o',oz,qT _ _,ha,rfl,lD,⟨hgw,rfl⟩,fun a7 h b' tC=>Lf a7 h b' (by rw[JL];exact bx.le_trans (il hle (Nat.le_refl _)) tC)⟩
  ·obtain⟨j,AD,o2,k1,k2,k3,k4,k5,k6,k7⟩:=C.yw b m hb h2;exact⟨j,AD,o2,k1,oT k2,k3,k4,by rw[JS _ (C.lt h2)];exact k5,k6,fun a7 h b' tC=>k7 a7 h b' (bx.le_trans (il hle (Nat.le_refl _)) tC)⟩
 ·intro b1 b2 m1 m2 nh h1 h2 he;rcases mB h1 with⟨rfl,rfl⟩|⟨_,h1⟩<;>rcases mB h2 with⟨rfl,rfl⟩|⟨_,h2⟩
  ·rfl
  ·have:=C.lt h2;simp only at he;omega
  ·have:=C.lt h1;simp only at he;omega
  ·exact C.apart b1 b2 m1 m2 nh h1 h2 he
theorem Core.dE (X:H9 ops hs lg) (C:Core E base B ops hs lg j7 w0 c L μ w) (hc:c<ops.length) (he:lg c= .dE (hs c) (hs (c+1))) {gP:bx} {w1:World} (S:Step E base B (cut μ (hs c).size) (hs c) w gP (hs (c+1)) w1):
 ∃a7,μ.le a7∧cut a7 (hs (c+1)).size=gP∧Core E base B ops hs lg j7 w0 (c+1) (sC L c) a7 w1:=by
 have bR:=X.step hc;have RN:∀{j md},Al ops hs lg j md→j≠c:=fun ha e=>by subst e;have:=ha.2.1;rw[he]at this;cases this
 -- whoever is made early stands behind
 have YZ:∀b m,(hs c).size≤b→μ b=some m→(hs (c+1)).size≤b:=by
  intro b m hb hm;obtain⟨j,md,o',k1,k2,k3,k4,_⟩:=C.yw b m hb hm;have:=RN k3;rw[k4];exact X.mono om (by have:=k3.1;omega)
 let a7:bx:=fun b=>if b<(hs (c+1)).size then gP b else μ b
 have aN:∀b,b<(hs (c+1)).size→a7 b=gP b:=fun b hb=>if_pos hb;have xI:∀b,(hs (c+1)).size≤b→a7 b=μ b:=fun b hb=>if_neg om;have hle:μ.le a7:=by
  intro b m hm;by_cases hb:b<(hs (c+1)).size
  ·rw[aN b hb];refine S.le b m (dR.2 ⟨?_,hm⟩);by_cases h2:b<(hs c).size
   ·exact h2
   ·have:=YZ b m om hm;omega
  ·rw[xI b om];exact hm
 have RO:cut a7 (hs (c+1)).size=gP:=by
  funext b
  unfold cut;by_cases hb:b<(hs (c+1)).size
  ·rw[if_pos hb,aN b hb]
  ·rw[if_neg hb];cases hm:gP b with
   |none=>rfl
   |some m=>have:=S.rel.gS b m hm;omega
 have JS:∀b m,(hs c).size≤b→μ b=some m→w1.heap[m.r]? =w.heap[m.r]? :=by
  intro b m hb hm;refine S.grow.bA m.r (C.lt hm) fun b2 m2 pX Nh=>?_;have h2:=dR.1 pX;have:=C.apart b b2 m m2 hb hm h2.2 Nh.symm;omega
 have mB:∀{b:Nat} {m:MT},a7 b=some m→(μ b=some m)∨(μ b=none∧b<(hs (c+1)).size∧(hs c).size≤b∧base≤b∧(w.heap.size≤m.r∨∃b0 m0,base≤b0∧b0<(hs c).size∧μ b0=some m0∧m0.r=m.r)):=by
  intro b m hm;cases h0:μ b with
  |some m0=>have:=hle b m0 h0;rw[hm]at this;cases this;exact .inl rfl
  |none=>
   by_cases hb:b<(hs (c+1)).size
   ·rw[aN b hb]at hm;have hn:cut μ (hs c).size b=none:=by unfold cut;split<;>first|exact h0|rfl
    obtain⟨q1,q2,q3⟩:=S.new b m hn hm;refine .inr ⟨rfl,hb,q1,q2,?_⟩;rcases q3 with q3|⟨b0,m0,q3,q4,q5⟩
    ·exact .inl q3
    ·have:=dR.1 q4;exact .inr ⟨b0,m0,q3,this.1,this.2,q5⟩
   ·rw[xI b om,h0]at hm;cases hm
 refine⟨a7,hle,RO,hc,?_,by rw[RO];exact S.rel,bx.le_trans C.Q0 hle,?_,?_,?_,?_,?_,?_,?_⟩
 ·intro j h h' hj hl;by_cases e:j=c
  ·subst e;rw[qT];simp
  ·rw[iA e,C.Fe j h h' hj hl];omega
 ·refine⟨S.grow.tape.trans C.grow.tape,S.grow.os.trans C.grow.os,S.grow.output.trans C.grow.output,Nat.le_trans C.grow.size S.grow.size,fun r hr hk=>?_⟩;rw[S.grow.bA r (Nat.lt_of_lt_of_le hr C.grow.size) ?_,C.grow.bA r hr hk];intro b m hb Yr;have hm:=(dR.1 hb).2;cases h0:j7 b with
  |some m0=>
   have:=C.Q0 b m0 h0;rw[hm]at this;cases this;exact hk b m h0 Yr
  |none=>
   obtain⟨_,_,h3⟩:=C.new b m h0 hm;rcases h3 with h3|⟨b0,m0,we,HK,Az⟩
   ·omega
   ·have:=hk b0 m0 HK (Az.trans Yr);omega
 ·intro b m h0 hm;rcases mB hm with hm|⟨hn,nh,pX,Nf,Vv⟩
  ·exact C.new b m h0 hm
  ·have rP:=X.mono (i:=0) (j:=c) (Nat.zero_le _) C.cN;refine⟨om,Nf,?_⟩;rcases Vv with Vv|⟨b0,m0,q1,q2,q3,q4⟩
   ·exact .inl (Nat.le_trans C.grow.size Vv)
   ·cases rP:j7 b0 with
    |some m00=>
     have:=C.Q0 b0 m00 rP;rw[q3]at this;cases this;exact .inr ⟨b0,m0,q1,rP,q4⟩
    |none=>
     obtain⟨_,_,hx⟩:=C.new b0 m0 rP q3;rcases hx with hx|⟨b1,m1,r1,r2,r3⟩
     ·exact .inl om
     ·exact .inr ⟨b1,m1,r1,r2,r3.trans q4⟩
 ·intro b hb h0;have rP:=X.mono (i:=0) (j:=c) (Nat.zero_le _) C.cN;rw[S.HJ b om ?_,C.HJ b hb h0];cases hm:cut μ (hs c).size b with
  |none=>rfl
  |some m=>have:=(C.new b m h0 (dR.1 hm).2).1;omega
 ·intro j md hj ha hl;have bH:=RN ha;rw[iA bH]at hl;obtain⟨q1,q2⟩:=C.late j md om ha hl;have hjs:(hs j).size<(hs c).size:=by
   have:=X.mono (i:=j+1) (j:=c) om C.cN;rw[ha.size]at this;omega
  have hn:cut μ (hs c).size (hs j).size=none:=by unfold cut;split<;>first|exact q1|rfl
  refine⟨?_,by rw[S.HJ _ hjs hn];exact q2⟩;rw[aN _ om];cases hm:gP (hs j).size with
  |none=>rfl
  |some m=>have:=(S.new _ m hn hm).1;omega
 ·intro j md hj ha hl;rw[iA (RN ha)]at hl;obtain⟨m,hm⟩:=C.YX j md om ha hl;exact⟨m,hle _ _ hm⟩
 ·intro b m hb hm;rw[xI b hb]at hm;obtain⟨j,md,o',k1,k2,k3,k4,k5,k6,k7⟩:=C.yw b m om hm;have:=RN k3;exact⟨j,md,o',om,oT k2,k3,k4,by rw[JS b m om hm];exact k5,k6,fun wb h b' tC=>k7 wb h b' (bx.le_trans (il hle (Nat.le_refl _)) tC)⟩
 ·intro b1 b2 m1 m2 nh h1 h2 hr;rw[xI b1 nh]at h1;rcases mB h2 with h2|⟨hn,_,pX,_,Vv⟩
  ·exact C.apart b1 b2 m1 m2 om h1 h2 hr
  ·have RP:=C.lt h1;rcases Vv with Vv|⟨b0,m0,q1,q2,q3,q4⟩
   ·omega
   ·have:=C.apart b1 b0 m1 m0 om h1 q3 (hr.trans q4.symm);omega
end
section
variable {P:Program} {E:Env} {base B:Nat} {cf:fg} {rf:eg} {ops:List Oper} {fs:Nat→AF} {hs:Nat→ab} {vs:Nat→Value} {lg:Nat→eD}
variable {j7:bx} {w0:World} {a0:Act} {c:Nat} {L:Nat→Bool} {μ a7:bx} {w w':World} {a:Act}
structure nO (ops:List Oper) (fs:Nat→AF) (hs:Nat→ab) (vs:Nat→Value) (j7:bx) (a0:Act) (c:Nat) (L:Nat→Bool) (μ:bx) (a:Act):Prop where
 size:a.tmps.size=(fs 0).n
 dfs:a.defers=a0.defers
 w:∀(j:Nat) (o:Oper) (d:Tmp),ops[j]? =some o→L j=true→o.dst=some d→ar (cut μ (max (hs (j+1)).size (hs c).size)) (vs j) (a.tmps.getD d undef)
 old:∀d:Tmp,(∀(j:Nat) (o:Oper),ops[j]? =some o→L j=true→o.dst≠some d)→ar j7 ((fs 0).get d) (a.tmps.getD d undef)
theorem nO.mono (S:nO ops fs hs vs j7 a0 c L μ a) (hle:μ.le a7) {c':Nat} (hc:(hs c).size≤(hs c').size):nO ops fs hs vs j7 a0 c' L a7 a:=
 ⟨S.size,S.dfs,fun j o d ho hl hd=>(S.w j o d ho hl hd).mono (il hle om),S.old⟩
theorem nO.put (X:oS ops) (hd:kE (fs 0).n ops=true) (S:nO ops fs hs vs j7 a0 c L μ a) {k:Nat} {o:Oper} (ho:ops[k]? =some o) (hk:L k=false) {v':Value}
 (hv:ar (cut μ (max (hs (k+1)).size (hs c).size)) (vs k) v'):nO ops fs hs vs j7 a0 c (sC L k) μ (a.put o.dst v'):=by
 have fo:∀t,o.dst≠some t→(a.put o.dst v').tmps.getD t undef=a.tmps.getD t undef:=by
  intro t ht;cases hd:o.dst with
  |none=>rfl
  |some d=>
   rw[hd]at ht;have bH:d≠t:=fun h=>ht (by rw[h]);show(a.tmps.setIfInBounds d v').getD t undef=_;simp only[Array.getD_eq_getD_getElem?,Array.getElem?_setIfInBounds_ne bH]
 refine⟨?_,?_,?_,?_⟩
 ·rw[←S.size];cases o.dst with
  |none=>rfl
  |some d=>exact Array.size_setIfInBounds
 ·rw[←S.dfs];cases o.dst<;>rfl
 ·intro j p d hp hl hdj;by_cases e:j=k
  ·subst e;rw[ho]at hp;cases hp;have aN:d<a.tmps.size:=by
    rw[S.size];unfold kE at hd;have:=List.all_eq_true.1 hd o (List.mem_of_getElem? ho);rw[hdj]at this;simpa using this
   have:(a.put o.dst v').tmps.getD d undef=v':=by
    rw[hdj];show(a.tmps.setIfInBounds d v').getD d undef=v';simp[aN]
   rw[this];exact hv
  ·rw[iA e]at hl;rw[fo d (X.one k j o p d ho hp (fun h=>e h.symm) hdj)];exact S.w j p d hp hl hdj
 ·intro d xn;rw[fo d (xn k o ho (qT _ _))];exact S.old d fun j p hp hl=>xn j p hp (oT hl)
theorem nO.skip (S:nO ops fs hs vs j7 a0 c L μ a) {k:Nat} (hk:∀o,ops[k]? =some o→o.dst=none):nO ops fs hs vs j7 a0 c (sC L k) μ a:=by
 refine⟨S.size,S.dfs,fun j o d ho hl hd=>?_,fun d xn=>S.old d fun j p hp hl=>xn j p hp (oT hl)⟩;by_cases e:j=k
 ·subst e;rw[hk o ho]at hd;cases hd
 ·rw[iA e]at hl;exact S.w j o d ho hl hd
theorem nO.look (X:oS ops) (T:Trace E base cf rf ops ops fs hs vs lg) (K:H9 ops hs lg) (tQ:kE (fs 0).n ops=true) (tC:j7.le μ) (acg:∀b m,j7 b=some m→b<(hs 0).size)
 (S:nO ops fs hs vs j7 a0 c L μ a) (hC:sz ops L) {k:Nat} {o:Oper} (ho:ops[k]? =some o) (hk:L k=false) (hr:yv ops L o) {t:Tmp} (ht:t∈looks ops o):
 ar (cut μ (max (hs k).size (hs c).size)) ((fs k).get t) (a.tmps.getD t undef):=by
 have Q1:k<ops.length:=(List.getElem?_eq_some_iff.1 ho).1;have rP:=K.mono (i:=0) (j:=k) (Nat.zero_le _) om;have Up:(∀(j:Nat) (p:Oper),j<k→ops[j]? =some p→p.dst≠some t)→(∀(j:Nat) (p:Oper),ops[j]? =some p→L j=true→p.dst≠some t)→ar (cut μ (max (hs k).size (hs c).size)) ((fs k).get t) (a.tmps.getD t undef):=by
  intro h1 h2;rw[T.N1 t k om fun j p hj hp=>h1 j p hj hp];exact(S.old t h2).mono (N4 tC fun b m hb=>by have:=acg b m hb;omega)
 by_cases hex:∃j p,ops[j]? =some p∧p.dst=some t∧j≠k
 ·obtain⟨j,p,hp,hd,bH⟩:=hex;have Y0:=X.look k j o p t ho hp (fun h=>bH h.symm) hd ht;have Uq:∀(i:Nat) (q:Oper),ops[i]? =some q→q.dst=some t→i=j:=fun i q hq RT=>by
   by_cases e:i=j
   ·exact e
   ·exact absurd RT (X.one i j q p t hq hp e hd)
  rcases Nat.lt_trichotomy j k with aN|he|hgt
  ·have hl:=gF X hC aN ho hr (.inr Y0);have RU:t<(fs 0).n:=by
    unfold kE at tQ;have:=List.all_eq_true.1 tQ p (List.mem_of_getElem? hp);rw[hd]at this;simpa using this
   rw[T.N3 X RU hp hd k om aN];exact(S.w j p t hp hl hd).mono (il μ.le_refl (by have:=K.mono (i:=j+1) (j:=k) aN om;omega))
  ·exact absurd he bH
  ·have AB:L j=false:=by
    cases hl:L j with
    |false=>rfl
    |true=>
     have:=gF X hC hgt hp (hC j p hp hl) (.inl Y0);rw[hk]at this;cases this
   refine Up (fun i q hi hq RT=>?_) (fun i q hq hl RT=>?_)
   ·have:=Uq i q hq RT;omega
   ·have:=Uq i q hq RT;subst this;rw[AB]at hl;cases hl
 ·refine Up (fun i q hi hq RT=>hex ⟨i,q,hq,RT,om⟩) (fun i q hq hl RT=>?_);by_cases e:i=k
  ·subst e;rw[hk]at hl;cases hl
  ·exact hex ⟨i,q,hq,RT,e⟩
structure Inv (E:Env) (base B:Nat) (ops:List Oper) (fs:Nat→AF) (hs:Nat→ab) (vs:Nat→Value) (lg:Nat→eD) (j7:bx) (w0:World) (a0:Act) (L:Nat→Bool) (a:Act) (w:World):Prop where
 ex:∃c μ,Core E base B ops hs lg j7 w0 c L μ w∧nO ops fs hs vs j7 a0 c L μ a
theorem Ia {k:Nat} {o:Oper} (hC:sz ops L) (ho:ops[k]? =some o) (hr:yv ops L o):sz ops (sC L k):=by
 intro j p hp hl e he hb;by_cases YV:j=k
 ·subst YV;rw[ho]at hp;cases hp;exact oT (hr e he hb)
 ·rw[iA YV]at hl;exact oT (hC j p hp hl e he hb)
theorem RV (hE:bF P E) (uS:kG P E base B cf) (C3:oM P E base B rf) (C4:oN E cf) (C5:lL rf) {F:Fence} (hF:hZ F) {n:Nat} {ops:Array Oper}
 (X:oS ops.toList) (T:Trace E base cf rf ops.toList ops.toList fs hs vs lg) (K:H9 ops.toList hs lg) (tQ:kE (fs 0).n ops.toList=true) (H0:bt E base B j7 (hs 0) w0)
 (I:Inv E base B ops.toList fs hs vs lg j7 w0 a0 L a w) (hC:sz ops.toList L) {k:Nat} {o:Oper} (ho:ops[k]? =some o) (hk:L k=false) (hr:yv ops.toList L o)
 {next:Act→World→Prop} {Q:Exit→Act→World→Prop} (hn:∀a' w',Inv E base B ops.toList fs hs vs lg j7 w0 a0 (sC L k) a' w'→next a' w'):
 if Region.wanted o (yielded ops a.tmps)=true then o.wpIn F n P a w next Q else(∀f,o.about P w a.eval=some f→F.fn f)∧next (a.put o.dst undef) w:=by
 obtain⟨c,μ,C,S⟩:=I.ex;have KX:ops.toList[k]? =some o:=by simpa using ho
 have Q1:k<ops.toList.length:=(List.getElem?_eq_some_iff.1 KX).1;have hB:B≤w0.heap.size:=H0.low;have we:base≤(hs 0).size:=H0.mA;have Y1:∀s,(hs 0).size≤s→hY E (cut μ s):=fun s kp g YW=>by
  obtain⟨m,q1,q2⟩:=H0.dp g YW;exact⟨m,dR.2 ⟨by have:=H0.gS g m q1;omega,C.Q0 _ _ q1⟩,q2⟩
 have h0k:=K.mono (i:=0) (j:=k) (Nat.zero_le _) om
 have hf:dj (cut μ (max (hs k).size (hs c).size)) ((fs k).only (looks ops.toList o)) (Bt a (looks ops.toList o)).tmps:=
  NZ (by rw[S.size,T.Vs k om]) fun t ht=>S.look X T K tQ C.Q0 H0.gS hC KX hk hr ht
 have RW:hY E (cut μ (max (hs k).size (hs c).size)):=Y1 _ om;have rR:Region.wanted o (yielded ops a.tmps)=wanted ops.toList o (fs k):=by
  rw[←Da,sx hf o,Fa]
 have hkc:(hs k).size≤(hs (k+1)).size:=K.step Q1;rcases T.run k o KX with⟨hw,iD⟩|⟨hw,hv,hh,wC⟩
 ·rw[rR,if_pos hw];have ach:=noSelect iD;have Vw:=C2 iD;have Ur:eF E base cf rf o ((fs k).only (looks ops.toList o)) (hs k)=some ⟨vs k,hs (k+1),lg k⟩:=by rw[H5 (Lc _ _ _)];exact iD
  have hex:execOp a.eval o=execOp (Bt a (looks ops.toList o)).eval o:=Le ach
  -- an operation that turns no memory
  have quiet:∀v',ar (cut μ (max (hs k).size (hs c).size)) (vs k) v'→(∀h h',lg k≠ .dE h h')→(∀h h',lg k≠ .alloc h h')→next (a.put o.dst v') w:=by
   intro v' hv h1 h2;exact hn _ _ ⟨c,μ,C.Ff h1 h2,S.put X tQ KX hk (hv.mono (il μ.le_refl om))⟩
  rcases wv Ur with⟨hp,hh,wC⟩|⟨q,hq,hv,hh,wC⟩|⟨md,hd,eP,hv,hh,wC⟩|wC
  ·-- plain
   obtain⟨v',q1,q2⟩:=qR hE RW hf hp;refine⟨fun _ _=>hF.fn _,?_⟩;rw[Oper.semAt_eq _ _ _ Vw,hex,q2 w];exact quiet v' q1 (fun h h' e=>by simp only at wC;rw[wC]at e;cases e) (fun h h' e=>by simp only at wC;rw[wC]at e;cases e)
  ·-- a read
   simp only at hv hh wC;have hqk:q.dw<(hs k).size:=by
    rcases K.kind k Q1 with⟨h1,_⟩|⟨q',h1,_,h3⟩|⟨md,h1,_⟩|⟨h1,_⟩<;>rw[wC]at h1<;>cases h1
    exact h3
   -- who may come between
   have N8:∀i,i<ops.toList.length→i≠k→lg i= .alloc (hs i) (hs (i+1))→sj (hs i) q=true:=by
    intro i hi bH Y2;rcases Nat.lt_or_ge i k with h1|h1
    ·have hp:=K.pass i k h1 Q1;rw[Y2,wC]at hp;exact hp
    ·have hp:=K.pass k i om hi;rw[Y2,wC]at hp;exact hp
   have lM:∀i,i<ops.toList.length→i≠k→(lg i= .dE (hs i) (hs (i+1))∧(c≤i∧i<k∨k<i∧i<c))→fX (hs i) (hs (i+1)) q=true:=by
    intro i hi bH tF
    ·obtain⟨hie,acj⟩:=tF;have hL:=C.Fe i _ _ hi hie;have hio:=List.getElem?_eq_getElem (l:=ops.toList) (i:=i) hi;rcases acj with⟨h1,h2⟩|⟨h1,h2⟩
     ·have hp:=K.pass i k h2 Q1;rw[hie,wC]at hp;simp only[bh,Bool.or_eq_true]at hp;rcases hp with hp|hp
      ·have:=hL.1 (gF X hC h2 KX hr (.inl hp));omega
      ·exact hp
     ·have hp:=K.pass k i h1 hi;rw[hie,wC]at hp;simp only[bh,Bool.or_eq_true]at hp;rcases hp with hp|hp
      ·have hli:=hL.2 h2;have:=gF X hC h1 hio (hC i _ hio hli) (.inl hp);rw[hk]at this;cases this
      ·exact hp
   obtain⟨v',q1,q2⟩:=La (base:=base) (w:=w) hE hf RW (v:=vs k) hq (fun m hm=>by
    have Y3:=(dR.1 hm).2;by_cases Ry:q.dw<(hs c).size
    ·refine⟨hs c,?_,?_⟩
     ·rcases Nat.le_total k c with Vx|Vx
      ·rw[K.chain hqk Vx C.cN fun i h1 h2=>⟨fun h3=>?_,fun h3=>?_⟩];·exact hv
       ·have bH:i≠k:=fun e=>by
         subst e;rw[wC]at h3;cases h3
        exact lM i (by have:=C.cN;omega) bH ⟨h3,.inr ⟨om,h2⟩⟩
       ·have bH:i≠k:=fun e=>by
         subst e;rw[wC]at h3;cases h3
        exact N8 i (by have:=C.cN;omega) bH h3
      ·rw[←K.chain Ry Vx om fun i h1 h2=>⟨fun h3=>?_,fun h3=>?_⟩];·exact hv
       ·exact lM i om om ⟨h3,.inl ⟨h1,h2⟩⟩
       ·exact N8 i om om h3
     ·obtain⟨p,p',k1,k2,k3⟩:=C.rel.obj q.dw m (dR.2 ⟨Ry,Y3⟩);exact⟨p,p',k1,k2,k3.mono (il μ.le_refl om) id⟩
    ·obtain⟨j,md,o',k1,k2,k3,k4,k5,k6,k7⟩:=C.yw q.dw m om Y3;have YV:j<k:=by
      rcases Nat.lt_or_ge j k with h|h
      ·exact h
      ·have:=K.mono h (by have:=k3.1;omega);omega
     have iB:=k3.size;refine⟨hs (j+1),?_,md.obj q.dw,o',?_,k5,?_⟩
     ·rw[←K.chain (lo:=j+1) (hi:=k) om YV om fun i h1 h2=>⟨fun h3=>?_,fun h3=>?_⟩];·exact hv
      ·exact lM i om om ⟨h3,.inl ⟨om,h2⟩⟩
      ·exact N8 i om om h3
     ·rw[k3.2.2,ab.au,if_pos k4,←k4]
     ·exact k7 _ _ _ (il μ.le_refl om))
   refine⟨fun _ _=>hF.fn _,?_⟩;rw[Oper.semAt_eq _ _ _ Vw,hex,q2];exact quiet v' q1 (fun h h' e=>by rw[wC]at e;cases e) (fun h h' e=>by rw[wC]at e;cases e)
  ·-- a block is made
   simp only at hv hh wC;obtain⟨o',k',hvf,A⟩:=oJ hE RW hf eP;have ha:Al ops.toList hs lg k md:=⟨Q1,wC,hh⟩;refine⟨fun _ _=>hF.fn _,?_⟩;rw[Oper.semAt_eq _ _ _ Vw,hex,A.run w];obtain⟨hle,C'⟩:=C.alloc K hB we ha hk (EO.mk' w o') (n:=k') fun a7 h b' tC=>A.obj a7 h base b' _ tC;refine hn _ _ ⟨c,_,C',(S.mono hle (Nat.le_refl _)).put X tQ KX hk ?_⟩;rw[hv];refine A.val _ _ _ (dR.2 ⟨?_,bC _ _ _⟩);have:=ha.size;omega
  ·-- memory is turned
   have Us:lg k= .dE (hs k) (hs (k+1)):=wC;have oz:c≤k:=by
    have:=C.Fe k _ _ Q1 Us;rw[hk]at this;rcases Nat.lt_or_ge k c with h|h
    ·exact absurd (this.2 h) (by simp)
    ·exact h
   have N9:∀i,c≤i→i<k→∀h h',lg i≠ .dE h h':=by
    intro i h1 h2 g g' e;have hL:=C.Fe i _ _ om e;have hp:=K.pass i k h2 Q1;rw[e,Us]at hp;simp only[bh]at hp;have:=hL.1 (gF X hC h2 KX hr (.inl hp));omega
   have Ck:=C.Vu K hB we (k - c) om (fun i h1 h2=>N9 i h1 om);rw[show c+(k - c)=k by omega]at Ck;have JL:max (hs k).size (hs c).size=(hs k).size:=Nat.max_eq_left (K.mono oz om);rw[JL]at hf;have Sk:nO ops.toList fs hs vs j7 a0 k L μ a:=S.mono μ.le_refl (K.mono oz om);refine RM hE uS C3 C4 C5 hF hf Ck.rel Ur hex fun gP v' w1 q1 q2=>?_;obtain⟨a7,e1,e2,C'⟩:=Ck.dE K Q1 Us q2;refine hn _ _ ⟨k+1,a7,C',(Sk.mono e1 (K.step Q1)).put X tQ KX hk ?_⟩;rw[Nat.max_self,e2];exact q1
 ·rw[rR,if_neg (by rw[hw];simp)];refine⟨fun _ _=>hF.fn _,hn _ _ ⟨c,μ,C.Ff (fun h h' e=>by rw[wC]at e;cases e) (fun h h' e=>by rw[wC]at e;cases e),S.put X tQ KX hk ?_⟩⟩;rw[hv];exact .undef _
end
theorem Vy {E:Env} {base:Nat} {cf:fg} {rf:eg} {all ops:List Oper} {fs:Nat→AF} {hs:Nat→ab} {vs:Nat→Value} {lg:Nat→eD} (T:Trace E base cf rf all ops fs hs vs lg) {vg:List eD}
 (hl:∀j,j<ops.length→vg[j]? =some (lg j)) (hp:mN (dq ops []) 0 vg=true):H9 ops hs lg:=by
 obtain⟨k1,k2⟩:=wz hp;refine⟨fun j hj=>?_,fun i j YU hj=>?_⟩
 ·have hg:=k1 j _ (hl j hj);rcases T.run j _ (List.getElem?_eq_getElem hj)with⟨_,hr⟩|⟨_,_,h1,h2⟩
  ·rcases wv hr with⟨_,h1,h2⟩|⟨q,_,_,h1,h2⟩|⟨md,hd,_,_,h1,h2⟩|h2
   ·exact .inl ⟨h2,h1⟩
   ·simp only at h1 h2;rw[h2]at hg;exact .inr (.inl ⟨q,h2,h1,by simpa[na]using hg⟩)
   ·exact .inr (.inr (.inl ⟨md,h2,h1⟩))
   ·simp only at h2;rw[h2]at hg;exact .inr (.inr (.inr ⟨h2,by simpa[na]using hg⟩))
  ·exact .inl ⟨h2,h1⟩
 ·have:=k2 i j _ _ YU (hl i om) (hl j hj);simpa using this
def HA (listed:Array Bool):Nat→Bool:=fun j=>listed.getD j false
theorem JT {listed:Array Bool} {i:Nat} (hi:i<listed.size):HA (listed.setIfInBounds i true)=sC (HA listed) i:=by
 funext j
 unfold HA sC;by_cases e:j=i
 ·subst e;rw[if_pos rfl];simp[hi]
 ·rw[if_neg e];simp only[Array.getD_eq_getD_getElem?,Array.getElem?_setIfInBounds_ne (fun h=>e h.symm)]
theorem mem_ready {ops:Array Oper} {listed:Array Bool} {i:Nat} (hi:i∈Region.ready .any ops listed) (gB:listed.size=ops.size):
 ∃o,ops[i]? =some o∧i<listed.size∧HA listed i=false∧yv ops.toList (HA listed) o:=by
 unfold Region.ready at hi;simp only[List.mem_filter,List.mem_range,Bool.and_eq_true,Bool.not_eq_true']at hi;obtain⟨h1,h2,h3⟩:=hi;have h4:=Array.getElem?_eq_getElem h1;rw[h4]at h3;simp only[Option.map_some,Option.getD_some,Array.all_eq_true_iff_forall_mem,Bool.or_eq_true,Bool.not_eq_true']at h3;refine⟨_,h4,om,?_,fun e he hb=>?_⟩
 ·have aN:i<listed.size:=by omega
  unfold HA;simp only[Array.getD,aN,dif_pos]at h2 ⊢;exact h2
 ·rcases h3 e (by simpa using he)with h5|h5
  ·rw[hb]at h5;cases h5
  ·exact h5
theorem Bv {ops:Array Oper} {listed:Array Bool} (X:oS ops.toList) (gB:listed.size=ops.size) (h:Region.ready .any ops listed=[]):∀j,j<ops.size→HA listed j=true:=by
 intro j
 induction j using Nat.strongRecOn with
 |ind j ih=>
  intro hj;cases hl:HA listed j with
  |true=>rfl
  |false=>
   have hm:j∈Region.ready .any ops listed:=by
    unfold Region.ready;simp only[List.mem_filter,List.mem_range,Bool.and_eq_true,Bool.not_eq_true'];have h4:=Array.getElem?_eq_getElem hj;refine⟨hj,?_,?_⟩
    ·have aN:j<listed.size:=by omega
     unfold HA at hl;simp only[Array.getD,aN,dif_pos]at hl ⊢;exact hl
    ·rw[h4];simp only[Option.map_some,Option.getD_some,Array.all_eq_true_iff_forall_mem,Bool.or_eq_true,Bool.not_eq_true'];intro e he;cases hb:Region.binds .any e with
     |false=>exact .inl rfl
     |true=>
      have:=X.YT j _ (by rw[Array.getElem?_toList];exact h4) e (by simpa using he) hb;exact .inr (ih e.on this om)
   rw[h]at hm;cases hm
section
variable {P:Program} {E:Env} {base B:Nat} {cf:fg} {rf:eg} {fs:Nat→AF} {hs:Nat→ab} {vs:Nat→Value} {lg:Nat→eD}
variable {j7:bx} {w0:World} {a0:Act}
theorem Oa (hE:bF P E) (uS:kG P E base B cf) (C3:oM P E base B rf) (C4:oN E cf) (C5:lL rf) {F:Fence} (hF:hZ F) {n:Nat} {ops:Array Oper}
 (X:oS ops.toList) (T:Trace E base cf rf ops.toList ops.toList fs hs vs lg) (K:H9 ops.toList hs lg) (tQ:kE (fs 0).n ops.toList=true) (H0:bt E base B j7 (hs 0) w0)
 {Q:Exit→Act→World→Prop} (hQ:∀L a w,(∀j,j<ops.size→L j=true)→Inv E base B ops.toList fs hs vs lg j7 w0 a0 L a w→Q .normal a w):
 ∀(fuel:Nat) (listed:Array Bool) (a:Act) (w:World),listed.size=ops.size→listed.toList.count false≤fuel→sz ops.toList (HA listed)→Inv E base B ops.toList fs hs vs lg j7 w0 a0 (HA listed) a w→
  wpAnyIn F n P .any ops Q fuel listed a w:=by
 intro fuel
 induction fuel with
 |zero=>
  intro listed a w gB acm hC I;have tR:Region.ready .any ops listed=[]:=by
   apply List.eq_nil_iff_forall_not_mem.2;intro i hi;obtain⟨o,_,h2,h3,_⟩:=mem_ready hi gB;have fL:false∈listed.toList:=by
    unfold HA at h3;simp only[Array.getD,h2,dif_pos]at h3;rw[←h3];exact List.mem_of_getElem? (by rw[Array.getElem?_toList];exact Array.getElem?_eq_getElem h2)
   have:=List.count_pos_iff.2 fL;omega
  exact⟨tR,hQ _ _ _ (Bv X gB tR) I⟩
 |succ fuel ih=>
  intro listed a w gB acm hC I;refine⟨fun tR=>hQ _ _ _ (Bv X gB tR) I,fun i hi=>?_⟩;obtain⟨o,h1,h2,h3,h4⟩:=mem_ready hi gB;have uX:ops.toList[i]? =some o:=by simpa using h1
  refine wpOpIn_step h1 fun K' X8=>?_;refine RV hE uS C3 C4 C5 hF X T K tQ H0 I hC h1 h3 h4 fun a' w' I'=>X8 _ _ (ih _ _ _ ?_ ?_ ?_ ?_)
  ·rw[Array.size_setIfInBounds];exact gB
  ·rw[Array.toList_setIfInBounds,List.count_set (by simpa using h2)];have fo:listed.toList[i]'(by simpa using h2)=false:=by
    unfold HA at h3;simp only[Array.getD,h2,dif_pos]at h3;simpa using h3
   have fL:false∈listed.toList:=by rw[←fo];exact List.getElem_mem _
   have CX:=List.count_pos_iff.2 fL;rw[fo];have e1:(if(true==false)=true then 1 else 0)=0:=rfl;have e2:(if(false==false)=true then 1 else 0)=1:=rfl;omega
  ·rw[JT h2];exact Ia hC uX h4
  ·rw[JT h2];exact I'
theorem JU (hE:bF P E) (hm:P.follows .mixedOrders=true):C7 P E base B:=by
 intro cf rf uS C3 C4 C5 ops f h f' h' vg bR tQ iD Y4 μ a w hf H F n id Q hF hQ;obtain⟨fs,hs,vs,lg,T,e1,e2,e3,e4,e5⟩:=Fb iD;have X:=Vr bR;have K:=Vy T e5 Y4;refine wpIn_region_any hm ?_;have H0:bt E base B μ (hs 0) {w with drawn:=w.drawn+1}:=by rw[e2];exact H.congr rfl
 have hls:∀j,HA (Array.replicate ops.size false) j=false:=by
  intro j;unfold HA;by_cases hj:j<ops.size
  ·simp[hj]
  ·simp[hj]
 have RO:cut μ (hs 0).size=μ:=by
  funext b
  unfold cut;split
  ·rfl
  ·cases hb:μ b with
   |none=>rfl
   |some m=>have:=H0.gS b m hb;omega
 have I0:Inv E base B ops.toList fs hs vs lg μ {w with drawn:=w.drawn+1} a (HA (Array.replicate ops.size false)) a {w with drawn:=w.drawn+1}:=by
  refine⟨0,μ,⟨Nat.zero_le _,?_,by rw[RO];exact H0,μ.le_refl,.refl _ _ _,?_,fun _ _ _=>rfl,?_,?_,?_,?_⟩,⟨?_,rfl,?_,?_⟩⟩
  ·intro j h h' _ _;rw[hls];simp
  ·intro b m h0 h1;rw[h0]at h1;cases h1
  ·intro j md hj;omega
  ·intro j md _ _ hl;rw[hls]at hl;cases hl
  ·intro b m hb hm;have:=H0.gS b m hm;omega
  ·intro b1 b2 m1 m2 nh h1;have:=H0.gS b1 m1 h1;omega
  ·rw[e1];exact hf.n.symm
  ·intro j o d _ hl;rw[hls]at hl;cases hl
  ·intro d _;rw[e1];exact hf.get d
 refine Oa hE uS C3 C4 C5 hF X T K (by rw[e1];exact tQ) H0 (a0:=a) ?_ ops.size _ a _ (by simp) ?_ ?_ I0
 ·intro L a' w' cC I;obtain⟨c,a7,C,S⟩:=I.ex;have hlen:ops.toList.length=ops.size:=by simp
  have Cn:=C.Vu K H0.low H0.mA (ops.toList.length - c) (by have:=C.cN;omega) (fun i h1 h2 g g' hl=>by
   have h3:i<ops.toList.length:=by have:=C.cN;omega
   have:=(C.Fe i _ _ h3 hl).1 (cC i om);omega)
  have hcN:=C.cN;rw[show c+(ops.toList.length - c)=ops.toList.length by omega]at Cn;have hle:μ.le (cut a7 (hs ops.toList.length).size):=N4 Cn.Q0 fun b m hb=>by
   have h1:=H0.gS b m hb;have h2:=K.mono (i:=0) (j:=ops.toList.length) (Nat.zero_le _) (Nat.le_refl _);omega
  have St:Step E base B μ (hs 0) {w with drawn:=w.drawn+1} (cut a7 (hs ops.toList.length).size) (hs ops.toList.length) w':=
   ⟨Cn.rel,Cn.grow,hle,fun b m h0 h1=>Cn.new b m h0 (dR.1 h1).2,Cn.HJ,K.mono (Nat.zero_le _) (Nat.le_refl _)⟩
  rw[e2,e4]at St;refine hQ _ a' w' ?_ S.dfs ((Step.drawn H _).trans St);rw[←e3];refine⟨by rw[T.Vs _ (Nat.le_refl _),S.size],fun t=>?_⟩;by_cases hex:∃(j:Nat) (o:Oper),ops.toList[j]? =some o∧o.dst=some t
  ·obtain⟨j,o,ho,hd⟩:=hex;have hj:j<ops.toList.length:=(List.getElem?_eq_some_iff.1 ho).1;have RU:t<(fs 0).n:=by
    rw[e1];unfold kE at tQ;have:=List.all_eq_true.1 tQ o (List.mem_of_getElem? ho);rw[hd]at this;simpa using this
   rw[T.N3 X RU ho hd _ (Nat.le_refl _) hj];refine(S.w j o t ho (cC j om) hd).mono ?_;rw[←e4];exact il a7.le_refl (by
    have h1:=K.mono (i:=j+1) (j:=ops.toList.length) om (Nat.le_refl _);have h2:=K.mono (i:=c) (j:=ops.toList.length) C.cN (Nat.le_refl _);omega)
  ·rw[T.N1 t _ (Nat.le_refl _) fun j o _ ho hd=>hex ⟨j,o,ho,hd⟩,←e4];exact(S.old t fun j o ho _ hd=>hex ⟨j,o,ho,hd⟩).mono hle
 ·simp
 ·intro j o ho hl;rw[hls]at hl;cases hl
end
def eL (P:Program) (rF:FuncId→List Value→ab→Option (Value×ab)):Env where
 desc:=fun t=>P.underlying t
 size:=fun t=>(P.info? t).map (·.size)
 bytes:=fun t=>(P.info? t).map (·.bytes)
 zero:=fun t=>(P.info? t).bind fun i=>i.zero.bind fun z=>bO (fC z) (some z)
 tu:=fun t=> !P.eqGuardType P.depth t&& !P.stoodInHeld t
 func:=fun g=>(P.funcs[g]?).bind fun fn=>bO (fn.body.isSome&& !(fn.name== "runtime.NumGoroutine")) (some fn)
 x6:=fun _=>none
 still:=fun _=>false
 rF:=fun _=>rF
theorem yx (P:Program) (rF:FuncId→List Value→ab→Option (Value×ab)):bF P (eL P rF):=by
 refine⟨fun t d h=>h,fun t n h=>?_,fun t n h=>?_,fun t z h=>?_,fun t h=>?_,fun f fn h=>?_⟩
 ·simp only[eL,Option.map_eq_some_iff]at h;obtain⟨i,h1,h2⟩:=h;exact⟨i,h1,h2⟩
 ·simp only[eL,Option.map_eq_some_iff]at h;obtain⟨i,h1,h2⟩:=h;exact⟨i,h1,h2⟩
 ·simp only[eL,Option.bind_eq_some_iff,aj,Option.some.injEq]at h;obtain⟨i,h1,z',h2,h3,rfl⟩:=h;exact⟨⟨i,h1,h2⟩,h3⟩
 ·simp only[eL,Bool.and_eq_true,Bool.not_eq_true']at h;exact h
 ·simp only[eL,Option.bind_eq_some_iff,aj,Option.some.injEq,Bool.and_eq_true,Bool.not_eq_true']at h;obtain⟨i,h1,⟨h2,h3⟩,rfl⟩:=h;exact⟨h1,h2,h3⟩
section
variable {P:Program} {E:Env} {base B:Nat}
theorem yz (hE:bF P E) (hO:ik P E base B) (hm:P.follows .mixedOrders=true) (n:Nat):kG P E base B (iK E base n):=
 NV hE hO (codeOk hE hO (JU hE hm) n).1
def po:FuncId→List Value→ab→Option (Value×ab):=fun _ _ _=>none
theorem yA:ik P (eL P po) base B:=fun μ h w g args args' v h' hr=>by
 have:(none:Option (Value×ab))=some (v,h'):=hr;cases this
def rP:ab:=⟨.nil,0⟩
def Ib:bx:=fun _=>none
theorem Y5 (hg:∀g,E.dp g=false) (W:World):bt E 0 W.heap.size Ib rP W:=by
 have no:∀{b:Nat} {m:MT},Ib b=some m→False:=fun {b m} h=>by
  have:(none:Option MT)=some m:=h;cases this
 refine⟨fun b m h=>(no h).elim,fun b _=>rfl,fun b m h=>(no h).elim,fun b m h=>(no h).elim,fun b1 b2 m1 m2 h=>(no h).elim,fun b m r h=>(no h).elim,fun g h=>?_,Nat.le_refl _,Nat.le_refl _,fun b cs f di bd h=>?_,fun b m cs bd h=>(no h).elim⟩
 ·rw[hg g]at h;cases h
 ·have:(none:Option fH)=some (.cells cs f di bd):=h;cases this
theorem A0 {W W':World} {a7:bx} {h':ab} (S:Step E 0 W.heap.size Ib rP W a7 h' W'):Go.RowKit.Below W.heap.size W W':=
 ⟨S.grow.os,S.grow.tape,S.grow.output,S.grow.size,fun k hk=>S.grow.bA k hk fun b m h=>by
  have:(none:Option MT)=some m:=h;cases this⟩
def yB:Option (Value×ab)→Bool
 |some (.bool b,_)=>b
 |_=>false
theorem A3 {x:Option (Value×ab)} (h:yB x=true):∃h',x=some (.bool true,h'):=by
 unfold yB at h;split at h
 ·subst h;exact⟨_,rfl⟩
 ·cases h
end
end Go.M
namespace Go.M
open Go Go.ChangeShapes Go.WideShapes Go.ChangeAt Go.RowKit
section
variable {H:Type} {enc:TypeId×Value→H} {P:Program}
theorem rS (hl:laidOutB P=true) {W W':World} {sp:Nat→Bool}:∀{ts:List TypeId} {vs:List Value} {ds:List (DataW H)} {ps:List MemPlace},(∀t∈ts,P.readableRec t=true∧t<P.types.size)→
 DataW.TrodAll enc P W 0 (fun _=>true) true ts vs ds ps→(∀p∈ps,W.sameAt W' p)→(∀p∈ps,sp p.block=true)→DataW.TrodAll enc P W' 0 sp true ts vs ds ps
 |[],[],[],ps,_,h,_,_=>h
 |t::ts,v::vs,d::ds,ps,hr,h,hs,hp=>by
  obtain⟨p,q,h1,h2,rfl⟩:=h;refine⟨p,q,?_,?_,rfl⟩
  ·exact WideElems.Trod_stays hl (hr t List.mem_cons_self).1 (hr t List.mem_cons_self).2 h1 (fun x hx=>hs x (List.mem_append_left _ hx)) (fun x hx=>hp x (List.mem_append_left _ hx))
  ·exact rS hl (fun u hu=>hr u (List.mem_cons_of_mem _ hu)) h2 (fun x hx=>hs x (List.mem_append_right _ hx)) (fun x hx=>hp x (List.mem_append_right _ hx))
 |[],[],_::_,_,_,h,_,_=>by simp[DataW.TrodAll]at h
 |[],_::_,_,_,_,h,_,_=>by simp[DataW.TrodAll]at h
 |_::_,[],_,_,_,h,_,_=>by simp[DataW.TrodAll]at h
 |_::_,_::_,[],_,_,h,_,_=>by simp[DataW.TrodAll]at h
theorem p8 {W:World} {base:Nat} {sp:Nat→Bool} {held:Bool}:∀{ts:List TypeId} {vs:List Value} {ds:List (DataW H)} {ps:List MemPlace},DataW.TrodAll enc P W base sp held ts vs ds ps→ds.length=ts.length∧vs.length=ts.length
 |[],[],[],_,_=>⟨rfl,rfl⟩
 |t::ts,v::vs,d::ds,ps,h=>by
  obtain⟨p,q,_,h2,_⟩:=h;have:=p8 h2;simp[this.1,this.2]
 |[],[],_::_,_,h=>by simp[DataW.TrodAll]at h
 |[],_::_,_,_,h=>by simp[DataW.TrodAll]at h
 |_::_,[],_,_,h=>by simp[DataW.TrodAll]at h
 |_::_,_::_,[],_,h=>by simp[DataW.TrodAll]at h
theorem Lg {f:Func} {s:ChangeSpec} {apart fresh:Bool} {W W':World} {args:Array Value} {ds gs:List (DataW H)} {before:List MemPlace} {tb:TypeId}
 (hW:DataW.Whole enc P f.params.toList s.vars apart W args.toList ds gs before) (Ut:s.vars=[]) (HW:f.resultTypes= #[tb]) (hb:P.underlying tb=some .bool)
 (hl:laidOutB P=true) (hp:∀t∈f.params.toList,P.readableRec t=true∧t<P.types.size) (hs:s.fn H ds={results:=[.lit (.bool true)],args:=ds}) (Vz:Below W.heap.size W W'):
 s.post enc P f apart fresh false false W args (.bool true) W':=by
 have hW':=hW;have aN:∀p∈before,p.block<W.heap.size:=fun p hp=>hW.lt p hp;have hold:∀p∈before,(fun b=>decide (b<W.heap.size)) p.block=true:=fun p hp=>by simpa using aN p hp
 obtain⟨p,q,hA,hV,rfl,hz,hn⟩:=hW;rw[Ut]at hV;obtain⟨rfl,rfl⟩:=trodVars_none hV;simp only[List.append_nil]at*
 have jD:∀sp:Nat→Bool,(∀x∈p,sp x.block=true)→DataW.TrodAll enc P W' 0 sp true f.params.toList args.toList (s.fn H ds).args p:=fun sp vk=>by
  rw[hs];exact rS hl hp hA (fun x hx=>Vz.same (aN x hx)) vk
 have rJ:∀sp:Nat→Bool,DataW.TrodVars enc P W' sp s.vars (s.fn H ds).vars []:=fun sp=>by rw[hs,Ut];rfl
 have hr:∀(b:Nat) (sp:Nat→Bool) (hd:Bool),DataW.TrodAll enc P W' b sp hd f.resultTypes.toList ((Value.bool true).resultList f.resultTypes.size) (s.fn H ds).results []:=fun b sp hd=>by
  rw[hs,HW];exact trodAll_mk1 (shut_bool hb true)
 have fG:=ok_one (W':=W') (v:=.bool true) HW rfl (okWide_bool_mk hb true);refine⟨ds,[],p,[],p,[],hW',by simpa using hr _ _ _,by simpa using jD _ hold,by simpa using rJ _,World.keptBut_mono (fun x hx=>⟨hx,?_⟩) (Vz.frame _),fun _=>?_⟩
 ·exact Or.inr (by simpa using hx)
 ·refine⟨fG,_,_,([]++p)++[],⟨[]++p,[],trodAll_append (by simpa using jD _ (fun _ _=>rfl)) (by simpa using hr _ _ _),by simpa using rJ _,rfl,?_,?_⟩,?_⟩
  ·intro b off pX;have Nf:MemPlace.cell b off∈p:=by simpa using pX
   have:=aN _ Nf;rw[Vz.frozen (p:=⟨b,off,none⟩) this];exact hz b off (by simpa using Nf)
  ·intro ha;have:=hn ha;simpa using this
  ·intro x hx _;simpa using hx
def Oc (P:Program):List TypeId→List IntKind→Bool
 |[],[]=>true
 |t::ts,k::ks=>(match P.underlying t with|some (.int k')=>decide (k'=k)|_=>false)&&Oc P ts ks
 |_,_=>false
def aek (P:Program) (t:TypeId) (ks:List IntKind):Bool:=
 match P.underlying t,P.cellTypes P.depth t with
 |some (.struct _),some ts=>Nat.beq (P.cellsOf t) ts.length&&Oc P ts ks
 |_,_=>false
end
end Go.M
