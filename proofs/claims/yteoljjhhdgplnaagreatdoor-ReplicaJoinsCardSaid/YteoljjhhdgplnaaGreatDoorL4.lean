/-
  Part 4 of the library that the proof leans on.
-/
import Derived.Test.YteoljjhhdgplnaaGreatDoorL3
import Derived.Carry
import Derived.OpenShut
import Derived.KernelRfl
import Derived.WalkKit
import Derived.ProofKit
namespace Go.M
open Go
structure J4 (ops:List Oper) (hs:Nat→ah) (lg:Nat→eK):Prop where
 kind:∀j,j<ops.length→(lg j= .pure∧hs (j+1)=hs j)∨(∃q,lg j= .rd q (hs j)∧hs (j+1)=hs j∧q.dJ<(hs j).size)∨
  (∃md:Made,lg j= .alloc (hs j) (hs (j+1))∧hs (j+1)=(hs j).push (md.obj (hs j).size))∨(lg j= .dI (hs j) (hs (j+1))∧(hs j).size≤(hs (j+1)).size)
 pass:∀i j,i<j→j<ops.length→bk (dC ops []) i (lg i) j (lg j)=true
def Al (ops:List Oper) (hs:Nat→ah) (lg:Nat→eK) (j:Nat) (md:Made):Prop:=
 j<ops.length∧lg j= .alloc (hs j) (hs (j+1))∧hs (j+1)=(hs j).push (md.obj (hs j).size)
section
variable {E:Env} {base B:Nat} {ops:List Oper} {hs:Nat→ah} {lg:Nat→eK}
theorem J4.step (X:J4 ops hs lg) {j:Nat} (hj:j<ops.length):(hs j).size≤(hs (j+1)).size:=by
 rcases X.kind j hj with⟨_,h⟩|⟨q,_,h,_⟩|⟨md,_,h⟩|⟨_,h⟩
 ·rw[h];exact Nat.le_refl _
 ·rw[h];exact Nat.le_refl _
 ·rw[h,ah.size_push];omega
 ·exact h
theorem J4.mono (X:J4 ops hs lg) {i:Nat}:∀{j:Nat},i≤j→j≤ops.length→(hs i).size≤(hs j).size:=by
 intro j
 induction j with
 |zero=>intro h _;rw[Nat.le_zero.1 h];exact Nat.le_refl _
 |succ j ih=>
  intro h hj;by_cases e:i=j+1
  ·subst e;exact Nat.le_refl _
  ·exact Nat.le_trans (ih om om) (X.step om)
theorem Al.size {j:Nat} {md:Made} (h:Al ops hs lg j md):(hs (j+1)).size=(hs j).size+1:=by rw[h.2.2];rfl
theorem Al.inj (X:J4 ops hs lg) {i j:Nat} {md BR:Made} (h:Al ops hs lg i md) (k:Al ops hs lg j BR) (e:(hs i).size=(hs j).size):i=j:=by
 rcases Nat.lt_trichotomy i j with hl|hl|hl
 ·have:=X.mono (i:=i+1) (j:=j) hl (by have:=k.1;omega);rw[h.size]at this;omega
 ·exact hl
 ·have:=X.mono (i:=j+1) (j:=i) hl (by have:=h.1;omega);rw[k.size]at this;omega
theorem wC (md:Made) (b:Nat):∀cs f dj aS,md.obj b= .cells cs f dj aS→f=b∧dj=b:=by
 intro cs f dj aS h;cases md<;>simp[Made.obj]at h;exact⟨h.2.1.symm,h.2.2.1.symm⟩
theorem J4.chain (X:J4 ops hs lg) {q:RQ} {lo:Nat} (hb:q.dJ<(hs lo).size):∀{hi:Nat},lo≤hi→hi≤ops.length→
 (∀i,lo≤i→i<hi→((lg i= .dI (hs i) (hs (i+1)))→gl (hs i) (hs (i+1)) q=true)∧((lg i= .alloc (hs i) (hs (i+1)))→tP (hs i) q=true))→q.run (hs hi)=q.run (hs lo):=by
 intro hi
 induction hi with
 |zero=>intro h _ _;rw[Nat.le_zero.1 h]
 |succ k ih=>
  intro h hk kI;by_cases e:lo=k+1
  ·subst e;rfl
  ·have h1:=ih om om fun i hi1 hi2=>kI i hi1 om;rw[←h1];have hbk:q.dJ<(hs k).size:=Nat.lt_of_lt_of_le hb (X.mono om om);rcases X.kind k om with⟨_,h⟩|⟨q',_,h,_⟩|⟨md,h,h'⟩|⟨h,_⟩
   ·rw[h]
   ·rw[h]
   ·rw[h'];exact Q8 ((kI k om om).2 h) hbk
   ·exact J3 ((kI k om om).1 h) hbk
structure Core (E:Env) (base B:Nat) (ops:List Oper) (hs:Nat→ah) (lg:Nat→eK) (j4:bD) (w0:World) (c:Nat) (L:Nat→Bool) (μ:bD) (w:World):Prop where
 cN:c≤ops.length
 G5:∀j h h',j<ops.length→lg j= .dI h h'→(L j=true↔j<c)
 rel:bB E base B (cut μ (hs c).size) (hs c) w
 Va:j4.le μ
 grow:Grow base j4 w0 w
 new:∀b m,j4 b=none→μ b=some m→(hs 0).size≤b∧base≤b∧(w0.heap.size≤m.r∨∃b0 m0,base≤b0∧j4 b0=some m0∧m0.r=m.r)
 L3:∀b,b<(hs 0).size→j4 b=none→(hs c).get b=(hs 0).get b
 late:∀j md,j<c→Al ops hs lg j md→L j=false→μ (hs j).size=none∧(hs c).get (hs j).size=some (md.obj (hs j).size)
 bu:∀j md,c≤j→Al ops hs lg j md→L j=true→∃m,μ (hs j).size=some m
 Ab:∀b m,(hs c).size≤b→μ b=some m→∃j md o',c≤j∧L j=true∧Al ops hs lg j md∧b=(hs j).size∧w.heap[m.r]? =some o'∧(w0.heap.size≤m.r∧m.s=0)∧
  ∀bd h b',(cut μ (hs j).size).le bd→jA bd h base b' m (md.obj b') o'
 apart:∀b1 b2 m1 m2,(hs c).size≤b1→μ b1=some m1→μ b2=some m2→m1.r=m2.r→b1=b2
def ud (L:Nat→Bool) (k:Nat):Nat→Bool:=fun j=>if j=k then true else L j
theorem r9 (L:Nat→Bool) (k:Nat):ud L k k=true:=by simp[ud]
theorem iD {L:Nat→Bool} {k j:Nat} (h:j≠k):ud L k j=L j:=by simp[ud,h]
theorem pd {L:Nat→Bool} {k j:Nat} (h:L j=true):ud L k j=true:=by unfold ud;split<;>simp[h]
variable {j4:bD} {w0:World} {c:Nat} {L:Nat→Bool} {μ:bD} {w:World}
theorem Core.go (X:J4 ops hs lg) (C:Core E base B ops hs lg j4 w0 c L μ w) (hc:c<ops.length) (bC:∀h h',lg c≠ .dI h h') (hB:B≤w0.heap.size) (zH:base≤(hs 0).size):Core E base B ops hs lg j4 w0 (c+1) L μ w:=by
 have ad0:∀j h h',j<ops.length→lg j= .dI h h'→(L j=true↔j<c+1):=fun j h h' hj hl=>by
  rw[C.G5 j h h' hj hl];constructor
  ·intro h;omega
  ·intro h1;have:j≠c:=fun e=>by subst e;exact bC _ _ hl
   omega
 have same:hs (c+1)=hs c→(∀md,¬Al ops hs lg c md)→Core E base B ops hs lg j4 w0 (c+1) L μ w:=by
  intro e CM;refine⟨hc,ad0,by rw[e];exact C.rel,C.Va,C.grow,C.new,by rw[e];exact C.L3,?_,?_,?_,by rw[e];exact C.apart⟩
  ·intro j md hj dh hl;rw[e];have:j≠c:=fun h=>by subst h;exact CM _ dh
   exact C.late j md om dh hl
  ·intro j md hj;exact C.bu j md om
  ·rw[e];intro b m hb hm;obtain⟨j,md,o',k1,k2,k3,k4⟩:=C.Ab b m hb hm;have:j≠c:=fun h=>by subst h;exact CM _ k3
   exact⟨j,md,o',om,k2,k3,k4⟩
 rcases X.kind c hc with⟨h1,h2⟩|⟨q,h1,h2,_⟩|⟨md,h1,h2⟩|⟨h1,_⟩
 ·exact same h2 fun md ha=>by have:=ha.2.1;rw[h1]at this;cases this
 ·exact same h2 fun md ha=>by have:=ha.2.1;rw[h1]at this;cases this
 ·have dh:Al ops hs lg c md:=⟨hc,h1,h2⟩;have fq:=dh.size;have zI:=X.mono (i:=0) (j:=c) (Nat.zero_le _) C.cN;have lx:=wC md (hs c).size;have Hp:bB E base B (cut μ (hs c).size) (hs (c+1)) w:=by rw[h2];exact C.rel.Q6 fun cs f dj aS e=>(lx cs f dj aS e).1
  have eW:(hs (c+1)).get (hs c).size=some (md.obj (hs c).size):=by rw[h2,ah.al,if_pos rfl]
  have hold:∀b,b<(hs c).size→(hs (c+1)).get b=(hs c).get b:=fun b hb=>by rw[h2,ah.al,if_neg om]
  have uS:bB E base B (cut μ (hs (c+1)).size) (hs (c+1)) w:=by
   cases hm:μ (hs c).size with
   |none=>
    have e:cut μ (hs (c+1)).size=cut μ (hs c).size:=by
     funext b
     unfold cut;by_cases e1:b<(hs c).size
     ·rw[if_pos e1,if_pos om]
     ·rw[if_neg e1];split
      ·have:b=(hs c).size:=by omega
       rw[this];exact hm
      ·rfl
    rw[e];exact Hp
   |some m=>
    have e:cut μ (hs (c+1)).size=lr (cut μ (hs c).size) (hs c).size m:=by
     funext b
     unfold cut lr;by_cases e1:b=(hs c).size
     ·subst e1;rw[if_pos om,if_pos rfl,hm]
     ·rw[if_neg e1];show _=if b<(hs c).size then μ b else none
      by_cases e2:b<(hs c).size
      ·rw[if_pos e2,if_pos om]
      ·rw[if_neg e2,if_neg om]
    obtain⟨j,BR,o',k1,k2,k3,k4,k5,k6,k7⟩:=C.Ab _ m (Nat.le_refl _) hm;have hjc:j=c:=(Al.inj X dh k3 k4).symm;subst hjc;have hmd:BR.obj (hs j).size=md.obj (hs j).size:=by
     have h3:=k3.2.2;have:(hs (j+1)).get (hs j).size=some (BR.obj (hs j).size):=by rw[h3,ah.al,if_pos rfl]
     rw[eW]at this;exact(Option.some.inj this).symm
    rw[e];refine Hp.Mg om eW (by unfold cut;rw[if_neg om]) om om k5 ?_ (fun cs f dj aS e=>⟨(lx cs f dj aS e).1,Nat.le_of_eq (lx cs f dj aS e).2.symm⟩) (fun _ _ _=>k6.2) ?_
    ·intro d md2 hd he;have ZR:=dT.1 hd;have:=C.apart _ _ _ _ (Nat.le_refl _) hm ZR.2 he.symm;omega
    ·rw[←hmd];exact k7 _ _ _ (by
      rw[←e];exact il μ.le_refl om)
  refine⟨hc,ad0,uS,C.Va,C.grow,C.new,?_,?_,?_,?_,?_⟩
  ·intro b hb h0;rw[hold b om];exact C.L3 b hb h0
  ·intro j BR hj ha hl;by_cases e:j=c
   ·subst e;have hmd:BR.obj (hs j).size=md.obj (hs j).size:=by
     have h3:=ha.2.2;have:(hs (j+1)).get (hs j).size=some (BR.obj (hs j).size):=by rw[h3,ah.al,if_pos rfl]
     rw[eW]at this;exact(Option.some.inj this).symm
    refine⟨?_,by rw[hmd];exact eW⟩;cases hm:μ (hs j).size with
    |none=>rfl
    |some m=>
     obtain⟨j',md2,o',k1,k2,k3,k4,_⟩:=C.Ab _ m (Nat.le_refl _) hm;have:j'=j:=(Al.inj X dh k3 k4).symm;subst this;rw[hl]at k2;cases k2
   ·obtain⟨q1,q2⟩:=C.late j BR om ha hl;have hjs:(hs j).size<(hs c).size:=by
     have:=X.mono (i:=j+1) (j:=c) om C.cN;rw[ha.size]at this;omega
    exact⟨q1,by rw[hold _ hjs];exact q2⟩
  ·intro j BR hj;exact C.bu j BR om
  ·intro b m hb hm;obtain⟨j,BR,o',k1,k2,k3,k4,k5⟩:=C.Ab b m om hm;have:j≠c:=fun h=>by subst h;omega
   exact⟨j,BR,o',om,k2,k3,k4,k5⟩
  ·intro b1 b2 m1 m2 rW;exact C.apart b1 b2 m1 m2 om
 ·exact absurd h1 (bC _ _)
theorem Core.ZS (X:J4 ops hs lg) (hB:B≤w0.heap.size) (zH:base≤(hs 0).size):∀(n:Nat) {c:Nat},Core E base B ops hs lg j4 w0 c L μ w→c+n≤ops.length→(∀i,c≤i→i<c+n→∀h h',lg i≠ .dI h h')→Core E base B ops hs lg j4 w0 (c+n) L μ w
 |0,c,C,_,_=>C
 |n+1,c,C,hn,bC=>by
  have:=Core.ZS X hB zH n (c:=c+1) (C.go X om (bC c (Nat.le_refl _) om) hB zH) om (fun i h1 h2=>bC i om om);rw[show c+(n+1)=c+1+n by omega];exact this
theorem Core.G6 (C:Core E base B ops hs lg j4 w0 c L μ w) {k:Nat} (h1:∀h h',lg k≠ .dI h h') (h2:∀h h',lg k≠ .alloc h h'):Core E base B ops hs lg j4 w0 c (ud L k) μ w:=by
 have dh:∀{j md},Al ops hs lg j md→j≠k:=fun ha e=>by subst e;exact h2 _ _ ha.2.1
 refine⟨C.cN,?_,C.rel,C.Va,C.grow,C.new,C.L3,?_,?_,?_,C.apart⟩
 ·intro j h h' hj hl;rw[iD (fun e=>by subst e;exact h1 _ _ hl)];exact C.G5 j h h' hj hl
 ·intro j md hj ha hl;rw[iD (dh ha)]at hl;exact C.late j md hj ha hl
 ·intro j md hj ha hl;rw[iD (dh ha)]at hl;exact C.bu j md hj ha hl
 ·intro b m hb hm;obtain⟨j,md,o',k1,k2,k3⟩:=C.Ab b m hb hm;exact⟨j,md,o',k1,pd k2,k3⟩
end
section
variable {E:Env} {base B:Nat} {ops:List Oper} {hs:Nat→ah} {lg:Nat→eK}
variable {j4:bD} {w0:World} {c:Nat} {L:Nat→Bool} {μ:bD} {w w':World}
theorem Core.lt (C:Core E base B ops hs lg j4 w0 c L μ w) {b:Nat} {m:MT} (hm:μ b=some m):m.r<w.heap.size:=by
 by_cases hb:b<(hs c).size
 ·exact C.rel.lt (dT.2 ⟨hb,hm⟩)
 ·obtain⟨j,md,o',_,_,_,_,k5,_⟩:=C.Ab b m om hm;exact(Array.getElem?_eq_some_iff.1 k5).1
theorem Core.alloc (X:J4 ops hs lg) (C:Core E base B ops hs lg j4 w0 c L μ w) (hB:B≤w0.heap.size) (zH:base≤(hs 0).size) {k:Nat} {md:Made} (ha:Al ops hs lg k md) (hk:L k=false) {o':Obj} (hw:GI w o' w') {n:Nat}
 (N5:∀bd h b',(cut μ (max (hs k).size (hs c).size)).le bd→jA bd h base b' ⟨w.heap.size,0,n⟩ (md.obj b') o'):
 μ.le (lr μ (hs k).size ⟨w.heap.size,0,n⟩)∧Core E base B ops hs lg j4 w0 c (ud L k) (lr μ (hs k).size ⟨w.heap.size,0,n⟩) w':=by
 have fq:=ha.size;have zI:=X.mono (i:=0) (j:=k) (Nat.zero_le _) (by have:=ha.1;omega);have y9:∀{j:Nat} {BR:Made},Al ops hs lg j BR→(hs c).size≤(hs j).size→c≤j:=by
  intro j BR hj hle;by_cases h:c≤j
  ·exact h
  ·have:=X.mono (i:=j+1) (j:=c) om C.cN;rw[hj.size]at this;omega
 have ad1:μ (hs k).size=none:=by
  by_cases hkc:k<c
  ·exact(C.late k md hkc ha hk).1
  ·cases hm:μ (hs k).size with
   |none=>rfl
   |some m=>
    obtain⟨j,BR,o2,k1,k2,k3,k4,_⟩:=C.Ab _ m (X.mono om (by have:=ha.1;omega)) hm;have:k=j:=Al.inj X ha k3 k4;subst this;rw[hk]at k2;cases k2
 have hle:μ.le (lr μ (hs k).size ⟨w.heap.size,0,n⟩):=g9 ad1;have mh:∀{d:Nat} {md:MT},lr μ (hs k).size ⟨w.heap.size,0,n⟩ d=some md→(d=(hs k).size∧md=⟨w.heap.size,0,n⟩)∨(d≠(hs k).size∧μ d=some md):=by
  intro d md hd;by_cases e:d=(hs k).size
  ·subst e;rw[bY]at hd;cases hd;exact .inl ⟨rfl,rfl⟩
  ·rw[qj _ _ e]at hd;exact .inr ⟨e,hd⟩
 have hgw:=C.grow.size;have xP:∀r,r<w.heap.size→w'.heap[r]? =w.heap[r]? :=fun r hr=>by rw[hw.get,if_neg om]
 have lx:w'.heap[w.heap.size]? =some o':=by rw[hw.get,if_pos rfl]
 refine⟨hle,C.cN,?_,?_,bD.le_trans C.Va hle,?_,?_,C.L3,?_,?_,?_,?_⟩
 ·intro j h h' hj hl;rw[iD (fun e=>by subst e;have:=ha.2.1;rw[hl]at this;cases this)];exact C.G5 j h h' hj hl
 ·by_cases hkc:k<c
  ·have CI:(hs k).size<(hs c).size:=by
    have:=X.mono (i:=k+1) (j:=c) om C.cN;omega
   have e:cut (lr μ (hs k).size ⟨w.heap.size,0,n⟩) (hs c).size=lr (cut μ (hs c).size) (hs k).size ⟨w.heap.size,0,n⟩:=by
    funext b
    unfold cut lr;by_cases e1:b=(hs k).size
    ·subst e1;rw[if_pos CI];simp
    ·rw[if_neg e1];rw[if_neg e1]
   obtain⟨q1,q2⟩:=C.late k md hkc ha hk;have zK:max (hs k).size (hs c).size=(hs c).size:=Nat.max_eq_right om;rw[e];refine(C.rel.alc hw).Mg CI q2 (by unfold cut;rw[if_pos CI];exact q1) om (by show B≤w.heap.size;omega) lx ?_ (fun cs f dj aS e=>⟨(wC md _ cs f dj aS e).1,Nat.le_of_eq (wC md _ cs f dj aS e).2.symm⟩) (fun _ _ _=>rfl) ?_
   ·intro d md2 hd he;have:=C.lt (dT.1 hd).2;simp only at he;omega
   ·refine N5 _ _ _ ?_;rw[zK];exact g9 (by unfold cut;rw[if_pos CI];exact q1)
  ·have CI:(hs c).size≤(hs k).size:=X.mono om (by have:=ha.1;omega);have e:cut (lr μ (hs k).size ⟨w.heap.size,0,n⟩) (hs c).size=cut μ (hs c).size:=by
    funext b
    unfold cut lr;by_cases e1:b<(hs c).size
    ·rw[if_pos e1,if_pos e1,if_neg om]
    ·rw[if_neg e1,if_neg e1]
   rw[e];exact C.rel.alc hw
 ·refine⟨hw.tape.trans C.grow.tape,hw.os.trans C.grow.os,hw.output.trans C.grow.output,by rw[hw.size];omega,fun r hr hk=>?_⟩;rw[xP r om];exact C.grow.bx r hr hk
 ·intro b m h0 hm;rcases mh hm with⟨rfl,rfl⟩|⟨_,h2⟩
  ·exact⟨zI,om,.inl hgw⟩
  ·exact C.new b m h0 h2
 ·intro j BR hj Yz hl;have bC:j≠k:=fun e=>by subst e;rw[r9]at hl;cases hl
  rw[iD bC]at hl;obtain⟨q1,q2⟩:=C.late j BR hj Yz hl;exact⟨by rw[qj _ _ (fun e=>bC (Al.inj X Yz ha e))];exact q1,q2⟩
 ·intro j BR hj Yz hl;by_cases e:j=k
  ·subst e;exact⟨_,bY _ _ _⟩
  ·rw[iD e]at hl;obtain⟨m,hm⟩:=C.bu j BR hj Yz hl;exact⟨m,hle _ _ hm⟩
 ·intro b m hb hm;rcases mh hm with⟨rfl,rfl⟩|⟨_,h2⟩
  ·have yK:=y9 ha hb;have zK:max (hs k).size (hs c).size=(hs k).size:=Nat.max_eq_left hb;exact⟨k,md,o',yK,r9 _ _,ha,rfl,lx,⟨hgw,rfl⟩,fun bd h b' wg=>N5 bd h b' (by rw[zK];exact bD.le_trans (il hle (Nat.le_refl _)) wg)⟩
  ·obtain⟨j,BR,o2,k1,k2,k3,k4,k5,k6,k7⟩:=C.Ab b m hb h2;exact⟨j,BR,o2,k1,pd k2,k3,k4,by rw[xP _ (C.lt h2)];exact k5,k6,fun bd h b' wg=>k7 bd h b' (bD.le_trans (il hle (Nat.le_refl _)) wg)⟩
 ·intro b1 b2 m1 m2 rW h1 h2 he;rcases mh h1 with⟨rfl,rfl⟩|⟨_,h1⟩<;>rcases mh h2 with⟨rfl,rfl⟩|⟨_,h2⟩
  ·rfl
  ·have:=C.lt h2;simp only at he;omega
  ·have:=C.lt h1;simp only at he;omega
  ·exact C.apart b1 b2 m1 m2 rW h1 h2 he
theorem Core.dI (X:J4 ops hs lg) (C:Core E base B ops hs lg j4 w0 c L μ w) (hc:c<ops.length) (he:lg c= .dI (hs c) (hs (c+1))) {gz:bD} {w1:World} (S:Step E base B (cut μ (hs c).size) (hs c) w gz (hs (c+1)) w1):
 ∃bd,μ.le bd∧cut bd (hs (c+1)).size=gz∧Core E base B ops hs lg j4 w0 (c+1) (ud L c) bd w1:=by
 have bz:=X.step hc;have VG:∀{j md},Al ops hs lg j md→j≠c:=fun ha e=>by subst e;have:=ha.2.1;rw[he]at this;cases this
 -- whoever is made early stands behind
 have ad2:∀b m,(hs c).size≤b→μ b=some m→(hs (c+1)).size≤b:=by
  intro b m hb hm;obtain⟨j,md,o',k1,k2,k3,k4,_⟩:=C.Ab b m hb hm;have:=VG k3;rw[k4];exact X.mono om (by have:=k3.1;omega)
 let bd:bD:=fun b=>if b<(hs (c+1)).size then gz b else μ b
 have bw:∀b,b<(hs (c+1)).size→bd b=gz b:=fun b hb=>if_pos hb;have y9:∀b,(hs (c+1)).size≤b→bd b=μ b:=fun b hb=>if_neg om;have hle:μ.le bd:=by
  intro b m hm;by_cases hb:b<(hs (c+1)).size
  ·rw[bw b hb];refine S.le b m (dT.2 ⟨?_,hm⟩);by_cases h2:b<(hs c).size
   ·exact h2
   ·have:=ad2 b m om hm;omega
  ·rw[y9 b om];exact hm
 have VH:cut bd (hs (c+1)).size=gz:=by
  funext b
  unfold cut;by_cases hb:b<(hs (c+1)).size
  ·rw[if_pos hb,bw b hb]
  ·rw[if_neg hb];cases hm:gz b with
   |none=>rfl
   |some m=>have:=S.rel.g8 b m hm;omega
 have xP:∀b m,(hs c).size≤b→μ b=some m→w1.heap[m.r]? =w.heap[m.r]? :=by
  intro b m hb hm;refine S.grow.bx m.r (C.lt hm) fun b2 m2 uO YA=>?_;have h2:=dT.1 uO;have:=C.apart b b2 m m2 hb hm h2.2 YA.symm;omega
 have mh:∀{b:Nat} {m:MT},bd b=some m→(μ b=some m)∨(μ b=none∧b<(hs (c+1)).size∧(hs c).size≤b∧base≤b∧(w.heap.size≤m.r∨∃b0 m0,base≤b0∧b0<(hs c).size∧μ b0=some m0∧m0.r=m.r)):=by
  intro b m hm;cases h0:μ b with
  |some m0=>have:=hle b m0 h0;rw[hm]at this;cases this;exact .inl rfl
  |none=>
   by_cases hb:b<(hs (c+1)).size
   ·rw[bw b hb]at hm;have hn:cut μ (hs c).size b=none:=by unfold cut;split<;>first|exact h0|rfl
    obtain⟨q1,q2,q3⟩:=S.new b m hn hm;refine .inr ⟨rfl,hb,q1,q2,?_⟩;rcases q3 with q3|⟨b0,m0,q3,q4,q5⟩
    ·exact .inl q3
    ·have:=dT.1 q4;exact .inr ⟨b0,m0,q3,this.1,this.2,q5⟩
   ·rw[y9 b om,h0]at hm;cases hm
 refine⟨bd,hle,VH,hc,?_,by rw[VH];exact S.rel,bD.le_trans C.Va hle,?_,?_,?_,?_,?_,?_,?_⟩
 ·intro j h h' hj hl;by_cases e:j=c
  ·subst e;rw[r9];simp
  ·rw[iD e,C.G5 j h h' hj hl];omega
 ·refine⟨S.grow.tape.trans C.grow.tape,S.grow.os.trans C.grow.os,S.grow.output.trans C.grow.output,Nat.le_trans C.grow.size S.grow.size,fun r hr hk=>?_⟩;rw[S.grow.bx r (Nat.lt_of_lt_of_le hr C.grow.size) ?_,C.grow.bx r hr hk];intro b m hb hmr;have hm:=(dT.1 hb).2;cases h0:j4 b with
  |some m0=>
   have:=C.Va b m0 h0;rw[hm]at this;cases this;exact hk b m h0 hmr
  |none=>
   obtain⟨_,_,h3⟩:=C.new b m h0 hm;rcases h3 with h3|⟨b0,m0,zH,JO,U7⟩
   ·omega
   ·have:=hk b0 m0 JO (U7.trans hmr);omega
 ·intro b m h0 hm;rcases mh hm with hm|⟨hn,rW,uO,Me,hb4⟩
  ·exact C.new b m h0 hm
  ·have zI:=X.mono (i:=0) (j:=c) (Nat.zero_le _) C.cN;refine⟨om,Me,?_⟩;rcases hb4 with hb4|⟨b0,m0,q1,q2,q3,q4⟩
   ·exact .inl (Nat.le_trans C.grow.size hb4)
   ·cases zI:j4 b0 with
    |some m00=>
     have:=C.Va b0 m00 zI;rw[q3]at this;cases this;exact .inr ⟨b0,m0,q1,zI,q4⟩
    |none=>
     obtain⟨_,_,hx⟩:=C.new b0 m0 zI q3;rcases hx with hx|⟨b1,m1,r1,r2,r3⟩
     ·exact .inl om
     ·exact .inr ⟨b1,m1,r1,r2,r3.trans q4⟩
 ·intro b hb h0;have zI:=X.mono (i:=0) (j:=c) (Nat.zero_le _) C.cN;rw[S.L3 b om ?_,C.L3 b hb h0];cases hm:cut μ (hs c).size b with
  |none=>rfl
  |some m=>have:=(C.new b m h0 (dT.1 hm).2).1;omega
 ·intro j md hj ha hl;have bC:=VG ha;rw[iD bC]at hl;obtain⟨q1,q2⟩:=C.late j md om ha hl;have hjs:(hs j).size<(hs c).size:=by
   have:=X.mono (i:=j+1) (j:=c) om C.cN;rw[ha.size]at this;omega
  have hn:cut μ (hs c).size (hs j).size=none:=by unfold cut;split<;>first|exact q1|rfl
  refine⟨?_,by rw[S.L3 _ hjs hn];exact q2⟩;rw[bw _ om];cases hm:gz (hs j).size with
  |none=>rfl
  |some m=>have:=(S.new _ m hn hm).1;omega
 ·intro j md hj ha hl;rw[iD (VG ha)]at hl;obtain⟨m,hm⟩:=C.bu j md om ha hl;exact⟨m,hle _ _ hm⟩
 ·intro b m hb hm;rw[y9 b hb]at hm;obtain⟨j,md,o',k1,k2,k3,k4,k5,k6,k7⟩:=C.Ab b m om hm;have:=VG k3;exact⟨j,md,o',om,pd k2,k3,k4,by rw[xP b m om hm];exact k5,k6,fun xF h b' wg=>k7 xF h b' (bD.le_trans (il hle (Nat.le_refl _)) wg)⟩
 ·intro b1 b2 m1 m2 rW h1 h2 hr;rw[y9 b1 rW]at h1;rcases mh h2 with h2|⟨hn,_,uO,_,hb4⟩
  ·exact C.apart b1 b2 m1 m2 om h1 h2 hr
  ·have N6:=C.lt h1;rcases hb4 with hb4|⟨b0,m0,q1,q2,q3,q4⟩
   ·omega
   ·have:=C.apart b1 b0 m1 m0 om h1 q3 (hr.trans q4.symm);omega
end
section
variable {P:Program} {E:Env} {base B:Nat} {cf:fk} {rf:eD} {ops:List Oper} {fs:Nat→AF} {hs:Nat→ah} {vs:Nat→Value} {lg:Nat→eK}
variable {j4:bD} {w0:World} {a0:Act} {c:Nat} {L:Nat→Bool} {μ bd:bD} {w w':World} {a:Act}
structure oj (ops:List Oper) (fs:Nat→AF) (hs:Nat→ah) (vs:Nat→Value) (j4:bD) (a0:Act) (c:Nat) (L:Nat→Bool) (μ:bD) (a:Act):Prop where
 size:a.tmps.size=(fs 0).n
 dfs:a.defers=a0.defers
 w:∀(j:Nat) (o:Oper) (d:Tmp),ops[j]? =some o→L j=true→o.dst=some d→aq (cut μ (max (hs (j+1)).size (hs c).size)) (vs j) (a.tmps.getD d undef)
 old:∀d:Tmp,(∀(j:Nat) (o:Oper),ops[j]? =some o→L j=true→o.dst≠some d)→aq j4 ((fs 0).get d) (a.tmps.getD d undef)
theorem oj.mono (S:oj ops fs hs vs j4 a0 c L μ a) (hle:μ.le bd) {c':Nat} (hc:(hs c).size≤(hs c').size):oj ops fs hs vs j4 a0 c' L bd a:=
 ⟨S.size,S.dfs,fun j o d ho hl hd=>(S.w j o d ho hl hd).mono (il hle om),S.old⟩
theorem oj.put (X:pc ops) (hd:ky (fs 0).n ops=true) (S:oj ops fs hs vs j4 a0 c L μ a) {k:Nat} {o:Oper} (ho:ops[k]? =some o) (hk:L k=false) {v':Value}
 (hv:aq (cut μ (max (hs (k+1)).size (hs c).size)) (vs k) v'):oj ops fs hs vs j4 a0 c (ud L k) μ (a.put o.dst v'):=by
 have eW:∀t,o.dst≠some t→(a.put o.dst v').tmps.getD t undef=a.tmps.getD t undef:=by
  intro t ht;cases hd:o.dst with
  |none=>rfl
  |some d=>
   rw[hd]at ht;have bC:d≠t:=fun h=>ht (by rw[h]);show(a.tmps.setIfInBounds d v').getD t undef=_;simp only[Array.getD_eq_getD_getElem?,Array.getElem?_setIfInBounds_ne bC]
 refine⟨?_,?_,?_,?_⟩
 ·rw[←S.size];cases o.dst with
  |none=>rfl
  |some d=>exact Array.size_setIfInBounds
 ·rw[←S.dfs];cases o.dst<;>rfl
 ·intro j p d hp hl hdj;by_cases e:j=k
  ·subst e;rw[ho]at hp;cases hp;have bw:d<a.tmps.size:=by
    rw[S.size];unfold ky at hd;have:=List.all_eq_true.1 hd o (List.mem_of_getElem? ho);rw[hdj]at this;simpa using this
   have:(a.put o.dst v').tmps.getD d undef=v':=by
    rw[hdj];show(a.tmps.setIfInBounds d v').getD d undef=v';simp[bw]
   rw[this];exact hv
  ·rw[iD e]at hl;rw[eW d (X.one k j o p d ho hp (fun h=>e h.symm) hdj)];exact S.w j p d hp hl hdj
 ·intro d uc;rw[eW d (uc k o ho (r9 _ _))];exact S.old d fun j p hp hl=>uc j p hp (pd hl)
theorem oj.skip (S:oj ops fs hs vs j4 a0 c L μ a) {k:Nat} (hk:∀o,ops[k]? =some o→o.dst=none):oj ops fs hs vs j4 a0 c (ud L k) μ a:=by
 refine⟨S.size,S.dfs,fun j o d ho hl hd=>?_,fun d uc=>S.old d fun j p hp hl=>uc j p hp (pd hl)⟩;by_cases e:j=k
 ·subst e;rw[hk o ho]at hd;cases hd
 ·rw[iD e]at hl;exact S.w j o d ho hl hd
theorem oj.look (X:pc ops) (T:Trace E base cf rf ops ops fs hs vs lg) (K:J4 ops hs lg) (vf:ky (fs 0).n ops=true) (wg:j4.le μ) (aid:∀b m,j4 b=some m→b<(hs 0).size)
 (S:oj ops fs hs vs j4 a0 c L μ a) (hC:ub ops L) {k:Nat} {o:Oper} (ho:ops[k]? =some o) (hk:L k=false) (hr:z9 ops L o) {t:Tmp} (ht:t∈looks ops o):
 aq (cut μ (max (hs k).size (hs c).size)) ((fs k).get t) (a.tmps.getD t undef):=by
 have Vb:k<ops.length:=(List.getElem?_eq_some_iff.1 ho).1;have zI:=K.mono (i:=0) (j:=k) (Nat.zero_le _) om;have YB:(∀(j:Nat) (p:Oper),j<k→ops[j]? =some p→p.dst≠some t)→(∀(j:Nat) (p:Oper),ops[j]? =some p→L j=true→p.dst≠some t)→aq (cut μ (max (hs k).size (hs c).size)) ((fs k).get t) (a.tmps.getD t undef):=by
  intro h1 h2;rw[T.Q3 t k om fun j p hj hp=>h1 j p hj hp];exact(S.old t h2).mono (Q5 wg fun b m hb=>by have:=aid b m hb;omega)
 by_cases hex:∃j p,ops[j]? =some p∧p.dst=some t∧j≠k
 ·obtain⟨j,p,hp,hd,bC⟩:=hex;have ad3:=X.look k j o p t ho hp (fun h=>bC h.symm) hd ht;have YC:∀(i:Nat) (q:Oper),ops[i]? =some q→q.dst=some t→i=j:=fun i q hq VI=>by
   by_cases e:i=j
   ·exact e
   ·exact absurd VI (X.one i j q p t hq hp e hd)
  rcases Nat.lt_trichotomy j k with bw|he|gu
  ·have hl:=gM X hC bw ho hr (.inr ad3);have htn:t<(fs 0).n:=by
    unfold ky at vf;have:=List.all_eq_true.1 vf p (List.mem_of_getElem? hp);rw[hd]at this;simpa using this
   rw[T.Q4 X htn hp hd k om bw];exact(S.w j p t hp hl hd).mono (il μ.le_refl (by have:=K.mono (i:=j+1) (j:=k) bw om;omega))
  ·exact absurd he bC
  ·have u4:L j=false:=by
    cases hl:L j with
    |false=>rfl
    |true=>
     have:=gM X hC gu hp (hC j p hp hl) (.inl ad3);rw[hk]at this;cases this
   refine YB (fun i q hi hq VI=>?_) (fun i q hq hl VI=>?_)
   ·have:=YC i q hq VI;omega
   ·have:=YC i q hq VI;subst this;rw[u4]at hl;cases hl
 ·refine YB (fun i q hi hq VI=>hex ⟨i,q,hq,VI,om⟩) (fun i q hq hl VI=>?_);by_cases e:i=k
  ·subst e;rw[hk]at hl;cases hl
  ·exact hex ⟨i,q,hq,VI,e⟩
structure Inv (E:Env) (base B:Nat) (ops:List Oper) (fs:Nat→AF) (hs:Nat→ah) (vs:Nat→Value) (lg:Nat→eK) (j4:bD) (w0:World) (a0:Act) (L:Nat→Bool) (a:Act) (w:World):Prop where
 ex:∃c μ,Core E base B ops hs lg j4 w0 c L μ w∧oj ops fs hs vs j4 a0 c L μ a
theorem J5 {k:Nat} {o:Oper} (hC:ub ops L) (ho:ops[k]? =some o) (hr:z9 ops L o):ub ops (ud L k):=by
 intro j p hp hl e he hb;by_cases hjk:j=k
 ·subst hjk;rw[ho]at hp;cases hp;exact pd (hr e he hb)
 ·rw[iD hjk]at hl;exact pd (hC j p hp hl e he hb)
theorem VJ (hE:bK P E) (B0:kA P E base B cf) (Ey:o6 P E base B rf) (Ez:o7 E cf) (EA:lN rf) {F:Fence} (hF:iH F) {n:Nat} {ops:Array Oper}
 (X:pc ops.toList) (T:Trace E base cf rf ops.toList ops.toList fs hs vs lg) (K:J4 ops.toList hs lg) (vf:ky (fs 0).n ops.toList=true) (H0:bB E base B j4 (hs 0) w0)
 (I:Inv E base B ops.toList fs hs vs lg j4 w0 a0 L a w) (hC:ub ops.toList L) {k:Nat} {o:Oper} (ho:ops[k]? =some o) (hk:L k=false) (hr:z9 ops.toList L o)
 {next:Act→World→Prop} {Q:Exit→Act→World→Prop} (hn:∀a' w',Inv E base B ops.toList fs hs vs lg j4 w0 a0 (ud L k) a' w'→next a' w'):
 if Region.wanted o (yielded ops a.tmps)=true then o.wpIn F n P a w next Q else(∀f,o.about P w a.eval=some f→F.fn f)∧next (a.put o.dst undef) w:=by
 obtain⟨c,μ,C,S⟩:=I.ex;have NQ:ops.toList[k]? =some o:=by simpa using ho
 have Vb:k<ops.toList.length:=(List.getElem?_eq_some_iff.1 NQ).1;have hB:B≤w0.heap.size:=H0.low;have zH:base≤(hs 0).size:=H0.mF;have hg0:∀s,(hs 0).size≤s→hZ E (cut μ s):=fun s hs' g ZQ=>by
  obtain⟨m,q1,q2⟩:=H0.dN g ZQ;exact⟨m,dT.2 ⟨by have:=H0.g8 g m q1;omega,C.Va _ _ q1⟩,q2⟩
 have h0k:=K.mono (i:=0) (j:=k) (Nat.zero_le _) om
 have hf:du (cut μ (max (hs k).size (hs c).size)) ((fs k).only (looks ops.toList o)) (CO a (looks ops.toList o)).tmps:=
  Q1 (by rw[S.size,T.ZP k om]) fun t ht=>S.look X T K vf C.Va H0.g8 hC NQ hk hr ht
 have hgk:hZ E (cut μ (max (hs k).size (hs c).size)):=hg0 _ om;have td:Region.wanted o (yielded ops a.tmps)=wanted ops.toList o (fs k):=by
  rw[←EG,tZ hf o,G0]
 have hkc:(hs k).size≤(hs (k+1)).size:=K.step Vb;rcases T.run k o NQ with⟨hw,ia⟩|⟨hw,hv,hh,xQ⟩
 ·rw[td,if_pos hw];have aii:=noSelect ia;have ZT:=Ew ia;have YD:eM E base cf rf o ((fs k).only (looks ops.toList o)) (hs k)=some ⟨vs k,hs (k+1),lg k⟩:=by rw[J0 (N1 _ _ _)];exact ia
  have hex:execOp a.eval o=execOp (CO a (looks ops.toList o)).eval o:=N4 aii
  -- an operation that turns no memory
  have quiet:∀v',aq (cut μ (max (hs k).size (hs c).size)) (vs k) v'→(∀h h',lg k≠ .dI h h')→(∀h h',lg k≠ .alloc h h')→next (a.put o.dst v') w:=by
   intro v' hv h1 h2;exact hn _ _ ⟨c,μ,C.G6 h1 h2,S.put X vf NQ hk (hv.mono (il μ.le_refl om))⟩
  rcases xL YD with⟨hp,hh,xQ⟩|⟨q,hq,hv,hh,xQ⟩|⟨md,hd,dh,hv,hh,xQ⟩|xQ
  ·-- plain
   obtain⟨v',q1,q2⟩:=rX hE hgk hf hp;refine⟨fun _ _=>hF.fn _,?_⟩;rw[Oper.semAt_eq _ _ _ ZT,hex,q2 w];exact quiet v' q1 (fun h h' e=>by simp only at xQ;rw[xQ]at e;cases e) (fun h h' e=>by simp only at xQ;rw[xQ]at e;cases e)
  ·-- a read
   simp only at hv hh xQ;have hqk:q.dJ<(hs k).size:=by
    rcases K.kind k Vb with⟨h1,_⟩|⟨q',h1,_,h3⟩|⟨md,h1,_⟩|⟨h1,_⟩<;>rw[xQ]at h1<;>cases h1
    exact h3
   -- who may come between
   have Q9:∀i,i<ops.toList.length→i≠k→lg i= .alloc (hs i) (hs (i+1))→tP (hs i) q=true:=by
    intro i hi bC hia;rcases Nat.lt_or_ge i k with h1|h1
    ·have hp:=K.pass i k h1 Vb;rw[hia,xQ]at hp;exact hp
    ·have hp:=K.pass k i om hi;rw[hia,xQ]at hp;exact hp
   have kI:∀i,i<ops.toList.length→i≠k→(lg i= .dI (hs i) (hs (i+1))∧(c≤i∧i<k∨k<i∧i<c))→gl (hs i) (hs (i+1)) q=true:=by
    intro i hi bC uW
    ·obtain⟨hie,aik⟩:=uW;have hL:=C.G5 i _ _ hi hie;have hio:=List.getElem?_eq_getElem (l:=ops.toList) (i:=i) hi;rcases aik with⟨h1,h2⟩|⟨h1,h2⟩
     ·have hp:=K.pass i k h2 Vb;rw[hie,xQ]at hp;simp only[bk,Bool.or_eq_true]at hp;rcases hp with hp|hp
      ·have:=hL.1 (gM X hC h2 NQ hr (.inl hp));omega
      ·exact hp
     ·have hp:=K.pass k i h1 hi;rw[hie,xQ]at hp;simp only[bk,Bool.or_eq_true]at hp;rcases hp with hp|hp
      ·have hli:=hL.2 h2;have:=gM X hC h1 hio (hC i _ hio hli) (.inl hp);rw[hk]at this;cases this
      ·exact hp
   obtain⟨v',q1,q2⟩:=NZ (base:=base) (w:=w) hE hf hgk (v:=vs k) hq (fun m hm=>by
    have ad6:=(dT.1 hm).2;by_cases hbc:q.dJ<(hs c).size
    ·refine⟨hs c,?_,?_⟩
     ·rcases Nat.le_total k c with ZU|ZU
      ·rw[K.chain hqk ZU C.cN fun i h1 h2=>⟨fun h3=>?_,fun h3=>?_⟩];·exact hv
       ·have bC:i≠k:=fun e=>by
         subst e;rw[xQ]at h3;cases h3
        exact kI i (by have:=C.cN;omega) bC ⟨h3,.inr ⟨om,h2⟩⟩
       ·have bC:i≠k:=fun e=>by
         subst e;rw[xQ]at h3;cases h3
        exact Q9 i (by have:=C.cN;omega) bC h3
      ·rw[←K.chain hbc ZU om fun i h1 h2=>⟨fun h3=>?_,fun h3=>?_⟩];·exact hv
       ·exact kI i om om ⟨h3,.inl ⟨h1,h2⟩⟩
       ·exact Q9 i om om h3
     ·obtain⟨p,p',k1,k2,k3⟩:=C.rel.obj q.dJ m (dT.2 ⟨hbc,ad6⟩);exact⟨p,p',k1,k2,k3.mono (il μ.le_refl om) id⟩
    ·obtain⟨j,md,o',k1,k2,k3,k4,k5,k6,k7⟩:=C.Ab q.dJ m om ad6;have hjk:j<k:=by
      rcases Nat.lt_or_ge j k with h|h
      ·exact h
      ·have:=K.mono h (by have:=k3.1;omega);omega
     have B4:=k3.size;refine⟨hs (j+1),?_,md.obj q.dJ,o',?_,k5,?_⟩
     ·rw[←K.chain (lo:=j+1) (hi:=k) om hjk om fun i h1 h2=>⟨fun h3=>?_,fun h3=>?_⟩];·exact hv
      ·exact kI i om om ⟨h3,.inl ⟨om,h2⟩⟩
      ·exact Q9 i om om h3
     ·rw[k3.2.2,ah.al,if_pos k4,←k4]
     ·exact k7 _ _ _ (il μ.le_refl om))
   refine⟨fun _ _=>hF.fn _,?_⟩;rw[Oper.semAt_eq _ _ _ ZT,hex,q2];exact quiet v' q1 (fun h h' e=>by rw[xQ]at e;cases e) (fun h h' e=>by rw[xQ]at e;cases e)
  ·-- a block is made
   simp only at hv hh xQ;obtain⟨o',k',hvf,A⟩:=oX hE hgk hf dh;have ha:Al ops.toList hs lg k md:=⟨Vb,xQ,hh⟩;refine⟨fun _ _=>hF.fn _,?_⟩;rw[Oper.semAt_eq _ _ _ ZT,hex,A.run w];obtain⟨hle,C'⟩:=C.alloc K hB zH ha hk (GI.mk' w o') (n:=k') fun bd h b' wg=>A.obj bd h base b' _ wg;refine hn _ _ ⟨c,_,C',(S.mono hle (Nat.le_refl _)).put X vf NQ hk ?_⟩;rw[hv];refine A.val _ _ _ (dT.2 ⟨?_,bY _ _ _⟩);have:=ha.size;omega
  ·-- memory is turned
   have Vc:lg k= .dI (hs k) (hs (k+1)):=xQ;have yK:c≤k:=by
    have:=C.G5 k _ _ Vb Vc;rw[hk]at this;rcases Nat.lt_or_ge k c with h|h
    ·exact absurd (this.2 h) (by simp)
    ·exact h
   have Ra:∀i,c≤i→i<k→∀h h',lg i≠ .dI h h':=by
    intro i h1 h2 g g' e;have hL:=C.G5 i _ _ om e;have hp:=K.pass i k h2 Vb;rw[e,Vc]at hp;simp only[bk]at hp;have:=hL.1 (gM X hC h2 NQ hr (.inl hp));omega
   have Ck:=C.ZS K hB zH (k - c) om (fun i h1 h2=>Ra i h1 om);rw[show c+(k - c)=k by omega]at Ck;have zK:max (hs k).size (hs c).size=(hs k).size:=Nat.max_eq_left (K.mono yK om);rw[zK]at hf;have Sk:oj ops.toList fs hs vs j4 a0 k L μ a:=S.mono μ.le_refl (K.mono yK om);refine VF hE B0 Ey Ez EA hF hf Ck.rel YD hex fun gz v' w1 q1 q2=>?_;obtain⟨bd,e1,e2,C'⟩:=Ck.dI K Vb Vc q2;refine hn _ _ ⟨k+1,bd,C',(Sk.mono e1 (K.step Vb)).put X vf NQ hk ?_⟩;rw[Nat.max_self,e2];exact q1
 ·rw[td,if_neg (by rw[hw];simp)];refine⟨fun _ _=>hF.fn _,hn _ _ ⟨c,μ,C.G6 (fun h h' e=>by rw[xQ]at e;cases e) (fun h h' e=>by rw[xQ]at e;cases e),S.put X vf NQ hk ?_⟩⟩;rw[hv];exact .undef _
end
theorem ZV {E:Env} {base:Nat} {cf:fk} {rf:eD} {all ops:List Oper} {fs:Nat→AF} {hs:Nat→ah} {vs:Nat→Value} {lg:Nat→eK} (T:Trace E base cf rf all ops fs hs vs lg) {wy:List eK}
 (hl:∀j,j<ops.length→wy[j]? =some (lg j)) (hp:mz (dC ops []) 0 wy=true):J4 ops hs lg:=by
 obtain⟨k1,k2⟩:=xO hp;refine⟨fun j hj=>?_,fun i j Qk hj=>?_⟩
 ·have hg:=k1 j _ (hl j hj);rcases T.run j _ (List.getElem?_eq_getElem hj)with⟨_,hr⟩|⟨_,_,h1,h2⟩
  ·rcases xL hr with⟨_,h1,h2⟩|⟨q,_,_,h1,h2⟩|⟨md,hd,_,_,h1,h2⟩|h2
   ·exact .inl ⟨h2,h1⟩
   ·simp only at h1 h2;rw[h2]at hg;exact .inr (.inl ⟨q,h2,h1,by simpa[ng]using hg⟩)
   ·exact .inr (.inr (.inl ⟨md,h2,h1⟩))
   ·simp only at h2;rw[h2]at hg;exact .inr (.inr (.inr ⟨h2,by simpa[ng]using hg⟩))
  ·exact .inl ⟨h2,h1⟩
 ·have:=k2 i j _ _ Qk (hl i om) (hl j hj);simpa using this
def JD (listed:Array Bool):Nat→Bool:=fun j=>listed.getD j false
theorem Mi {listed:Array Bool} {i:Nat} (hi:i<listed.size):JD (listed.setIfInBounds i true)=ud (JD listed) i:=by
 funext j
 unfold JD ud;by_cases e:j=i
 ·subst e;rw[if_pos rfl];simp[hi]
 ·rw[if_neg e];simp only[Array.getD_eq_getD_getElem?,Array.getElem?_setIfInBounds_ne (fun h=>e h.symm)]
theorem mem_ready {ops:Array Oper} {listed:Array Bool} {i:Nat} (hi:i∈Region.ready .any ops listed) (fq:listed.size=ops.size):
 ∃o,ops[i]? =some o∧i<listed.size∧JD listed i=false∧z9 ops.toList (JD listed) o:=by
 unfold Region.ready at hi;simp only[List.mem_filter,List.mem_range,Bool.and_eq_true,Bool.not_eq_true']at hi;obtain⟨h1,h2,h3⟩:=hi;have h4:=Array.getElem?_eq_getElem h1;rw[h4]at h3;simp only[Option.map_some,Option.getD_some,Array.all_eq_true_iff_forall_mem,Bool.or_eq_true,Bool.not_eq_true']at h3;refine⟨_,h4,om,?_,fun e he hb=>?_⟩
 ·have bw:i<listed.size:=by omega
  unfold JD;simp only[Array.getD,bw,dif_pos]at h2 ⊢;exact h2
 ·rcases h3 e (by simpa using he)with h5|h5
  ·rw[hb]at h5;cases h5
  ·exact h5
theorem CP {ops:Array Oper} {listed:Array Bool} (X:pc ops.toList) (fq:listed.size=ops.size) (h:Region.ready .any ops listed=[]):∀j,j<ops.size→JD listed j=true:=by
 intro j
 induction j using Nat.strongRecOn with
 |ind j ih=>
  intro hj;cases hl:JD listed j with
  |true=>rfl
  |false=>
   have hm:j∈Region.ready .any ops listed:=by
    unfold Region.ready;simp only[List.mem_filter,List.mem_range,Bool.and_eq_true,Bool.not_eq_true'];have h4:=Array.getElem?_eq_getElem hj;refine⟨hj,?_,?_⟩
    ·have bw:j<listed.size:=by omega
     unfold JD at hl;simp only[Array.getD,bw,dif_pos]at hl ⊢;exact hl
    ·rw[h4];simp only[Option.map_some,Option.getD_some,Array.all_eq_true_iff_forall_mem,Bool.or_eq_true,Bool.not_eq_true'];intro e he;cases hb:Region.binds .any e with
     |false=>exact .inl rfl
     |true=>
      have:=X.adY j _ (by rw[Array.getElem?_toList];exact h4) e (by simpa using he) hb;exact .inr (ih e.on this om)
   rw[h]at hm;cases hm
section
variable {P:Program} {E:Env} {base B:Nat} {cf:fk} {rf:eD} {fs:Nat→AF} {hs:Nat→ah} {vs:Nat→Value} {lg:Nat→eK}
variable {j4:bD} {w0:World} {a0:Act}
theorem Rb (hE:bK P E) (B0:kA P E base B cf) (Ey:o6 P E base B rf) (Ez:o7 E cf) (EA:lN rf) {F:Fence} (hF:iH F) {n:Nat} {ops:Array Oper}
 (X:pc ops.toList) (T:Trace E base cf rf ops.toList ops.toList fs hs vs lg) (K:J4 ops.toList hs lg) (vf:ky (fs 0).n ops.toList=true) (H0:bB E base B j4 (hs 0) w0)
 {Q:Exit→Act→World→Prop} (hQ:∀L a w,(∀j,j<ops.size→L j=true)→Inv E base B ops.toList fs hs vs lg j4 w0 a0 L a w→Q .normal a w):
 ∀(fuel:Nat) (listed:Array Bool) (a:Act) (w:World),listed.size=ops.size→listed.toList.count false≤fuel→ub ops.toList (JD listed)→Inv E base B ops.toList fs hs vs lg j4 w0 a0 (JD listed) a w→
  wpAnyIn F n P .any ops Q fuel listed a w:=by
 intro fuel
 induction fuel with
 |zero=>
  intro listed a w fq aim hC I;have N7:Region.ready .any ops listed=[]:=by
   apply List.eq_nil_iff_forall_not_mem.2;intro i hi;obtain⟨o,_,h2,h3,_⟩:=mem_ready hi fq;have zZ:false∈listed.toList:=by
    unfold JD at h3;simp only[Array.getD,h2,dif_pos]at h3;rw[←h3];exact List.mem_of_getElem? (by rw[Array.getElem?_toList];exact Array.getElem?_eq_getElem h2)
   have:=List.count_pos_iff.2 zZ;omega
  exact⟨N7,hQ _ _ _ (CP X fq N7) I⟩
 |succ fuel ih=>
  intro listed a w fq aim hC I;refine⟨fun N7=>hQ _ _ _ (CP X fq N7) I,fun i hi=>?_⟩;obtain⟨o,h1,h2,h3,h4⟩:=mem_ready hi fq;have BO:ops.toList[i]? =some o:=by simpa using h1
  refine wpOpIn_step h1 fun K' hK'=>?_;refine VJ hE B0 Ey Ez EA hF X T K vf H0 I hC h1 h3 h4 fun a' w' I'=>hK' _ _ (ih _ _ _ ?_ ?_ ?_ ?_)
  ·rw[Array.size_setIfInBounds];exact fq
  ·rw[Array.toList_setIfInBounds,List.count_set (by simpa using h2)];have eW:listed.toList[i]'(by simpa using h2)=false:=by
    unfold JD at h3;simp only[Array.getD,h2,dif_pos]at h3;simpa using h3
   have zZ:false∈listed.toList:=by rw[←eW];exact List.getElem_mem _
   have BW:=List.count_pos_iff.2 zZ;rw[eW];have e1:(if(true==false)=true then 1 else 0)=0:=rfl;have e2:(if(false==false)=true then 1 else 0)=1:=rfl;omega
  ·rw[Mi h2];exact J5 hC BO h4
  ·rw[Mi h2];exact I'
theorem Mj (hE:bK P E) (hm:P.follows .mixedOrders=true):ED P E base B:=by
 intro cf rf B0 Ey Ez EA ops f h f' h' wy bz vf ia ad7 μ a w hf H F n id Q hF hQ;obtain⟨fs,hs,vs,lg,T,e1,e2,e3,e4,e5⟩:=G4 ia;have X:=ZO bz;have K:=ZV T e5 ad7;refine wpIn_region_any hm ?_;have H0:bB E base B μ (hs 0) {w with drawn:=w.drawn+1}:=by rw[e2];exact H.congr rfl
 have hls:∀j,JD (Array.replicate ops.size false) j=false:=by
  intro j;unfold JD;by_cases hj:j<ops.size
  ·simp[hj]
  ·simp[hj]
 have VH:cut μ (hs 0).size=μ:=by
  funext b
  unfold cut;split
  ·rfl
  ·cases hb:μ b with
   |none=>rfl
   |some m=>have:=H0.g8 b m hb;omega
 have I0:Inv E base B ops.toList fs hs vs lg μ {w with drawn:=w.drawn+1} a (JD (Array.replicate ops.size false)) a {w with drawn:=w.drawn+1}:=by
  refine⟨0,μ,⟨Nat.zero_le _,?_,by rw[VH];exact H0,μ.le_refl,.refl _ _ _,?_,fun _ _ _=>rfl,?_,?_,?_,?_⟩,⟨?_,rfl,?_,?_⟩⟩
  ·intro j h h' _ _;rw[hls];simp
  ·intro b m h0 h1;rw[h0]at h1;cases h1
  ·intro j md hj;omega
  ·intro j md _ _ hl;rw[hls]at hl;cases hl
  ·intro b m hb hm;have:=H0.g8 b m hm;omega
  ·intro b1 b2 m1 m2 rW h1;have:=H0.g8 b1 m1 h1;omega
  ·rw[e1];exact hf.n.symm
  ·intro j o d _ hl;rw[hls]at hl;cases hl
  ·intro d _;rw[e1];exact hf.get d
 refine Rb hE B0 Ey Ez EA hF X T K (by rw[e1];exact vf) H0 (a0:=a) ?_ ops.size _ a _ (by simp) ?_ ?_ I0
 ·intro L a' w' ni I;obtain⟨c,bd,C,S⟩:=I.ex;have hlen:ops.toList.length=ops.size:=by simp
  have Cn:=C.ZS K H0.low H0.mF (ops.toList.length - c) (by have:=C.cN;omega) (fun i h1 h2 g g' hl=>by
   have h3:i<ops.toList.length:=by have:=C.cN;omega
   have:=(C.G5 i _ _ h3 hl).1 (ni i om);omega)
  have hcN:=C.cN;rw[show c+(ops.toList.length - c)=ops.toList.length by omega]at Cn;have hle:μ.le (cut bd (hs ops.toList.length).size):=Q5 Cn.Va fun b m hb=>by
   have h1:=H0.g8 b m hb;have h2:=K.mono (i:=0) (j:=ops.toList.length) (Nat.zero_le _) (Nat.le_refl _);omega
  have St:Step E base B μ (hs 0) {w with drawn:=w.drawn+1} (cut bd (hs ops.toList.length).size) (hs ops.toList.length) w':=
   ⟨Cn.rel,Cn.grow,hle,fun b m h0 h1=>Cn.new b m h0 (dT.1 h1).2,Cn.L3,K.mono (Nat.zero_le _) (Nat.le_refl _)⟩
  rw[e2,e4]at St;refine hQ _ a' w' ?_ S.dfs ((Step.drawn H _).trans St);rw[←e3];refine⟨by rw[T.ZP _ (Nat.le_refl _),S.size],fun t=>?_⟩;by_cases hex:∃(j:Nat) (o:Oper),ops.toList[j]? =some o∧o.dst=some t
  ·obtain⟨j,o,ho,hd⟩:=hex;have hj:j<ops.toList.length:=(List.getElem?_eq_some_iff.1 ho).1;have htn:t<(fs 0).n:=by
    rw[e1];unfold ky at vf;have:=List.all_eq_true.1 vf o (List.mem_of_getElem? ho);rw[hd]at this;simpa using this
   rw[T.Q4 X htn ho hd _ (Nat.le_refl _) hj];refine(S.w j o t ho (ni j om) hd).mono ?_;rw[←e4];exact il bd.le_refl (by
    have h1:=K.mono (i:=j+1) (j:=ops.toList.length) om (Nat.le_refl _);have h2:=K.mono (i:=c) (j:=ops.toList.length) C.cN (Nat.le_refl _);omega)
  ·rw[T.Q3 t _ (Nat.le_refl _) fun j o _ ho hd=>hex ⟨j,o,ho,hd⟩,←e4];exact(S.old t fun j o ho _ hd=>hex ⟨j,o,ho,hd⟩).mono hle
 ·simp
 ·intro j o ho hl;rw[hls]at hl;cases hl
end
def jG (P:Program) (v9:FuncId→List Value→ah→Option (Value×ah)):Env where
 desc:=fun t=>P.underlying t
 size:=fun t=>(P.info? t).map (·.size)
 bytes:=fun t=>(P.info? t).map (·.bytes)
 zero:=fun t=>(P.info? t).bind fun i=>i.zero.bind fun z=>bL (fF z) (some z)
 uQ:=fun t=> !P.eqGuardType P.depth t&& !P.stoodInHeld t
 func:=fun g=>(P.funcs[g]?).bind fun fn=>bL (fn.body.isSome&& !(fn.name== "runtime.NumGoroutine")) (some fn)
 y5:=fun _=>none
 still:=fun _=>false
 v9:=fun _=>v9
theorem ad8 (P:Program) (v9:FuncId→List Value→ah→Option (Value×ah)):bK P (jG P v9):=by
 refine⟨fun t d h=>h,fun t n h=>?_,fun t n h=>?_,fun t z h=>?_,fun t h=>?_,fun f fn h=>?_⟩
 ·simp only[jG,Option.map_eq_some_iff]at h;obtain⟨i,h1,h2⟩:=h;exact⟨i,h1,h2⟩
 ·simp only[jG,Option.map_eq_some_iff]at h;obtain⟨i,h1,h2⟩:=h;exact⟨i,h1,h2⟩
 ·simp only[jG,Option.bind_eq_some_iff,aj,Option.some.injEq]at h;obtain⟨i,h1,z',h2,h3,rfl⟩:=h;exact⟨⟨i,h1,h2⟩,h3⟩
 ·simp only[jG,Bool.and_eq_true,Bool.not_eq_true']at h;exact h
 ·simp only[jG,Option.bind_eq_some_iff,aj,Option.some.injEq,Bool.and_eq_true,Bool.not_eq_true']at h;obtain⟨i,h1,⟨h2,h3⟩,rfl⟩:=h;exact⟨h1,h2,h3⟩
section
variable {P:Program} {E:Env} {base B:Nat}
theorem Ac (hE:bK P E) (hO:kf P E base B) (hm:P.follows .mixedOrders=true) (n:Nat):kA P E base B (fW E base n):=
 QY hE hO (codeOk hE hO (Mj hE hm) n).1
def mN:FuncId→List Value→ah→Option (Value×ah):=fun _ _ _=>none
def zI:ah:=⟨.nil,0⟩
def Ad:Option (Value×ah)→Bool
 |some (.bool b,_)=>b
 |_=>false
theorem B5 {x:Option (Value×ah)} (h:Ad x=true):∃h',x=some (.bool true,h'):=by
 unfold Ad at h;split at h
 ·subst h;exact⟨_,rfl⟩
 ·cases h
end
end Go.M
namespace Go.M
open Go Go.ChangeShapes Go.WideShapes Go.ChangeAt Go.RowKit
section
variable {H:Type} {enc:TypeId×Value→H} {P:Program}
theorem te (hl:laidOutB P=true) {W W':World} {sp:Nat→Bool}:∀{ts:List TypeId} {vs:List Value} {ds:List (DataW H)} {ps:List MemPlace},(∀t∈ts,P.readableRec t=true∧t<P.types.size)→
 DataW.TrodAll enc P W 0 (fun _=>true) true ts vs ds ps→(∀p∈ps,W.sameAt W' p)→(∀p∈ps,sp p.block=true)→DataW.TrodAll enc P W' 0 sp true ts vs ds ps
 |[],[],[],ps,_,h,_,_=>h
 |t::ts,v::vs,d::ds,ps,hr,h,hs,hp=>by
  obtain⟨p,q,h1,h2,rfl⟩:=h;refine⟨p,q,?_,?_,rfl⟩
  ·exact WideElems.Trod_stays hl (hr t List.mem_cons_self).1 (hr t List.mem_cons_self).2 h1 (fun x hx=>hs x (List.mem_append_left _ hx)) (fun x hx=>hp x (List.mem_append_left _ hx))
  ·exact te hl (fun u hu=>hr u (List.mem_cons_of_mem _ hu)) h2 (fun x hx=>hs x (List.mem_append_right _ hx)) (fun x hx=>hp x (List.mem_append_right _ hx))
 |[],[],_::_,_,_,h,_,_=>by simp[DataW.TrodAll]at h
 |[],_::_,_,_,_,h,_,_=>by simp[DataW.TrodAll]at h
 |_::_,[],_,_,_,h,_,_=>by simp[DataW.TrodAll]at h
 |_::_,_::_,[],_,_,h,_,_=>by simp[DataW.TrodAll]at h
theorem qs {W:World} {base:Nat} {sp:Nat→Bool} {held:Bool}:∀{ts:List TypeId} {vs:List Value} {ds:List (DataW H)} {ps:List MemPlace},DataW.TrodAll enc P W base sp held ts vs ds ps→ds.length=ts.length∧vs.length=ts.length
 |[],[],[],_,_=>⟨rfl,rfl⟩
 |t::ts,v::vs,d::ds,ps,h=>by
  obtain⟨p,q,_,h2,_⟩:=h;have:=qs h2;simp[this.1,this.2]
 |[],[],_::_,_,h=>by simp[DataW.TrodAll]at h
 |[],_::_,_,_,h=>by simp[DataW.TrodAll]at h
 |_::_,[],_,_,h=>by simp[DataW.TrodAll]at h
 |_::_,_::_,[],_,h=>by simp[DataW.TrodAll]at h
theorem N8 {f:Func} {s:ChangeSpec} {apart fresh:Bool} {W W':World} {args:Array Value} {ds gs:List (DataW H)} {before:List MemPlace} {tb:TypeId}
 (hW:DataW.Whole enc P f.params.toList s.vars apart W args.toList ds gs before) (YE:s.vars=[]) (JW:f.resultTypes= #[tb]) (hb:P.underlying tb=some .bool)
 (hl:laidOutB P=true) (hp:∀t∈f.params.toList,P.readableRec t=true∧t<P.types.size) (hs:s.fn H ds={results:=[.lit (.bool true)],args:=ds}) (ZW:Below W.heap.size W W'):
 s.post enc P f apart fresh false false W args (.bool true) W':=by
 have hW':=hW;have bw:∀p∈before,p.block<W.heap.size:=fun p hp=>hW.lt p hp;have hold:∀p∈before,(fun b=>decide (b<W.heap.size)) p.block=true:=fun p hp=>by simpa using bw p hp
 obtain⟨p,q,hA,hV,rfl,hz,hn⟩:=hW;rw[YE]at hV;obtain⟨rfl,rfl⟩:=trodVars_none hV;simp only[List.append_nil]at*
 have kH:∀sp:Nat→Bool,(∀x∈p,sp x.block=true)→DataW.TrodAll enc P W' 0 sp true f.params.toList args.toList (s.fn H ds).args p:=fun sp hsp=>by
  rw[hs];exact te hl hp hA (fun x hx=>ZW.same (bw x hx)) hsp
 have JE:∀sp:Nat→Bool,DataW.TrodVars enc P W' sp s.vars (s.fn H ds).vars []:=fun sp=>by rw[hs,YE];rfl
 have hr:∀(b:Nat) (sp:Nat→Bool) (hd:Bool),DataW.TrodAll enc P W' b sp hd f.resultTypes.toList ((Value.bool true).resultList f.resultTypes.size) (s.fn H ds).results []:=fun b sp hd=>by
  rw[hs,JW];exact trodAll_mk1 (shut_bool hb true)
 have k9:=ok_one (W':=W') (v:=.bool true) JW rfl (okWide_bool_mk hb true);refine⟨ds,[],p,[],p,[],hW',by simpa using hr _ _ _,by simpa using kH _ hold,by simpa using JE _,World.keptBut_mono (fun x hx=>⟨hx,?_⟩) (ZW.frame _),fun _=>?_⟩
 ·exact Or.inr (by simpa using hx)
 ·refine⟨k9,_,_,([]++p)++[],⟨[]++p,[],trodAll_append (by simpa using kH _ (fun _ _=>rfl)) (by simpa using hr _ _ _),by simpa using JE _,rfl,?_,?_⟩,?_⟩
  ·intro b off uO;have Me:MemPlace.cell b off∈p:=by simpa using uO
   have:=bw _ Me;rw[ZW.frozen (p:=⟨b,off,none⟩) this];exact hz b off (by simpa using Me)
  ·intro ha;have:=hn ha;simpa using this
  ·intro x hx _;simpa using hx
def Rc (P:Program):List TypeId→List IntKind→Bool
 |[],[]=>true
 |t::ts,k::ks=>(match P.underlying t with|some (.int k')=>decide (k'=k)|_=>false)&&Rc P ts ks
 |_,_=>false
def akp (P:Program) (t:TypeId) (ks:List IntKind):Bool:=
 match P.underlying t,P.cellTypes P.depth t with
 |some (.struct _),some ts=>Nat.beq (P.cellsOf t) ts.length&&Rc P ts ks
 |_,_=>false
end
end Go.M
