/-
  Part 4 of the library that the proof leans on.
-/
import Derived.Test.YteoljjhhdgplnaaGreatDoorL3
import Derived.Carry
import Derived.OpenShut
import Derived.KernelRfl
import Derived.WalkKit
import Derived.ProofKit
namespace Go.M
open Go
structure Fj (ops:List Oper) (hs:Nat→ab) (lg:Nat→ee):Prop where
 kind:∀j,j<ops.length→(lg j= .pure∧hs (j+1)=hs j)∨(∃q,lg j= .rd q (hs j)∧hs (j+1)=hs j∧q.dw<(hs j).size)∨
  (∃md:Made,lg j= .alloc (hs j) (hs (j+1))∧hs (j+1)=(hs j).push (md.obj (hs j).size))∨(lg j= .dp (hs j) (hs (j+1))∧(hs j).size≤(hs (j+1)).size)
 pass:∀i j,i<j→j<ops.length→aV (c8 ops []) i (lg i) j (lg j)=true
def Al (ops:List Oper) (hs:Nat→ab) (lg:Nat→ee) (j:Nat) (md:Made):Prop:=
 j<ops.length∧lg j= .alloc (hs j) (hs (j+1))∧hs (j+1)=(hs j).push (md.obj (hs j).size)
section
variable {E:Env} {base B:Nat} {ops:List Oper} {hs:Nat→ab} {lg:Nat→ee}
theorem Fj.step (X:Fj ops hs lg) {j:Nat} (hj:j<ops.length):(hs j).size≤(hs (j+1)).size:=by
 rcases X.kind j hj with⟨_,h⟩|⟨q,_,h,_⟩|⟨md,_,h⟩|⟨_,h⟩
 ·rw[h];exact Nat.le_refl _
 ·rw[h];exact Nat.le_refl _
 ·rw[h,ab.size_push];omega
 ·exact h
theorem Fj.mono (X:Fj ops hs lg) {i:Nat}:∀{j:Nat},i≤j→j≤ops.length→(hs i).size≤(hs j).size:=by
 intro j
 induction j with
 |zero=>intro h _;rw[Nat.le_zero.1 h];exact Nat.le_refl _
 |succ j ih=>
  intro h hj;by_cases e:i=j+1
  ·subst e;exact Nat.le_refl _
  ·exact Nat.le_trans (ih om om) (X.step om)
theorem Al.size {j:Nat} {md:Made} (h:Al ops hs lg j md):(hs (j+1)).size=(hs j).size+1:=by rw[h.2.2];rfl
theorem Al.inj (X:Fj ops hs lg) {i j:Nat} {md yB:Made} (h:Al ops hs lg i md) (k:Al ops hs lg j yB) (e:(hs i).size=(hs j).size):i=j:=by
 rcases Nat.lt_trichotomy i j with hl|hl|hl
 ·have:=X.mono (i:=i+1) (j:=j) hl (by have:=k.1;omega);rw[h.size]at this;omega
 ·exact hl
 ·have:=X.mono (i:=j+1) (j:=i) hl (by have:=h.1;omega);rw[k.size]at this;omega
theorem tA (md:Made) (b:Nat):∀cs f cO aO,md.obj b= .cells cs f cO aO→f=b∧cO=b:=by
 intro cs f cO aO h;cases md<;>simp[Made.obj]at h;exact⟨h.2.1.symm,h.2.2.1.symm⟩
theorem Fj.chain (X:Fj ops hs lg) {q:RQ} {lo:Nat} (hb:q.dw<(hs lo).size):∀{hi:Nat},lo≤hi→hi≤ops.length→
 (∀i,lo≤i→i<hi→((lg i= .dp (hs i) (hs (i+1)))→fx (hs i) (hs (i+1)) q=true)∧((lg i= .alloc (hs i) (hs (i+1)))→qu (hs i) q=true))→q.run (hs hi)=q.run (hs lo):=by
 intro hi
 induction hi with
 |zero=>intro h _ _;rw[Nat.le_zero.1 h]
 |succ k ih=>
  intro h hk oM;by_cases e:lo=k+1
  ·subst e;rfl
  ·have h1:=ih om om fun i hi1 hi2=>oM i hi1 om;rw[←h1];have hbk:q.dw<(hs k).size:=Nat.lt_of_lt_of_le hb (X.mono om om);rcases X.kind k om with⟨_,h⟩|⟨q',_,h,_⟩|⟨md,h,h'⟩|⟨h,_⟩
   ·rw[h]
   ·rw[h]
   ·rw[h'];exact LB ((oM k om om).2 h) hbk
   ·exact Fi ((oM k om om).1 h) hbk
structure Core (E:Env) (base B:Nat) (ops:List Oper) (hs:Nat→ab) (lg:Nat→ee) (jk:bn) (w0:World) (c:Nat) (L:Nat→Bool) (μ:bn) (w:World):Prop where
 cN:c≤ops.length
 CQ:∀j h h',j<ops.length→lg j= .dp h h'→(L j=true↔j<c)
 rel:bf E base B (cut μ (hs c).size) (hs c) w
 O1:jk.le μ
 grow:Grow base jk w0 w
 new:∀b m,jk b=none→μ b=some m→(hs 0).size≤b∧base≤b∧(w0.heap.size≤m.r∨∃b0 m0,base≤b0∧jk b0=some m0∧m0.r=m.r)
 GZ:∀b,b<(hs 0).size→jk b=none→(hs c).get b=(hs 0).get b
 late:∀j md,j<c→Al ops hs lg j md→L j=false→μ (hs j).size=none∧(hs c).get (hs j).size=some (md.obj (hs j).size)
 bl:∀j md,c≤j→Al ops hs lg j md→L j=true→∃m,μ (hs j).size=some m
 wu:∀b m,(hs c).size≤b→μ b=some m→∃j md o',c≤j∧L j=true∧Al ops hs lg j md∧b=(hs j).size∧w.heap[m.r]? =some o'∧(w0.heap.size≤m.r∧m.s=0)∧
  ∀aS h b',(cut μ (hs j).size).le aS→iM aS h base b' m (md.obj b') o'
 apart:∀b1 b2 m1 m2,(hs c).size≤b1→μ b1=some m1→μ b2=some m2→m1.r=m2.r→b1=b2
def qJ (L:Nat→Bool) (k:Nat):Nat→Bool:=fun j=>if j=k then true else L j
theorem pC (L:Nat→Bool) (k:Nat):qJ L k k=true:=by simp[qJ]
theorem gS {L:Nat→Bool} {k j:Nat} (h:j≠k):qJ L k j=L j:=by simp[qJ,h]
theorem nj {L:Nat→Bool} {k j:Nat} (h:L j=true):qJ L k j=true:=by unfold qJ;split<;>simp[h]
variable {jk:bn} {w0:World} {c:Nat} {L:Nat→Bool} {μ:bn} {w:World}
theorem Core.go (X:Fj ops hs lg) (C:Core E base B ops hs lg jk w0 c L μ w) (hc:c<ops.length) (bj:∀h h',lg c≠ .dp h h') (hB:B≤w0.heap.size) (zh:base≤(hs 0).size):Core E base B ops hs lg jk w0 (c+1) L μ w:=by
 have WU:∀j h h',j<ops.length→lg j= .dp h h'→(L j=true↔j<c+1):=fun j h h' hj hl=>by
  rw[C.CQ j h h' hj hl];constructor
  ·intro h;omega
  ·intro h1;have:j≠c:=fun e=>by subst e;exact bj _ _ hl
   omega
 have same:hs (c+1)=hs c→(∀md,¬Al ops hs lg c md)→Core E base B ops hs lg jk w0 (c+1) L μ w:=by
  intro e EJ;refine⟨hc,WU,by rw[e];exact C.rel,C.O1,C.grow,C.new,by rw[e];exact C.GZ,?_,?_,?_,by rw[e];exact C.apart⟩
  ·intro j md hj eC hl;rw[e];have:j≠c:=fun h=>by subst h;exact EJ _ eC
   exact C.late j md om eC hl
  ·intro j md hj;exact C.bl j md om
  ·rw[e];intro b m hb hm;obtain⟨j,md,o',k1,k2,k3,k4⟩:=C.wu b m hb hm;have:j≠c:=fun h=>by subst h;exact EJ _ k3
   exact⟨j,md,o',om,k2,k3,k4⟩
 rcases X.kind c hc with⟨h1,h2⟩|⟨q,h1,h2,_⟩|⟨md,h1,h2⟩|⟨h1,_⟩
 ·exact same h2 fun md ha=>by have:=ha.2.1;rw[h1]at this;cases this
 ·exact same h2 fun md ha=>by have:=ha.2.1;rw[h1]at this;cases this
 ·have eC:Al ops hs lg c md:=⟨hc,h1,h2⟩;have fG:=eC.size;have vR:=X.mono (i:=0) (j:=c) (Nat.zero_le _) C.cN;have ko:=tA md (hs c).size;have Hp:bf E base B (cut μ (hs c).size) (hs (c+1)) w:=by rw[h2];exact C.rel.Ly fun cs f cO aO e=>(ko cs f cO aO e).1
  have eH:(hs (c+1)).get (hs c).size=some (md.obj (hs c).size):=by rw[h2,ab.ao,if_pos rfl]
  have hold:∀b,b<(hs c).size→(hs (c+1)).get b=(hs c).get b:=fun b hb=>by rw[h2,ab.ao,if_neg om]
  have rH:bf E base B (cut μ (hs (c+1)).size) (hs (c+1)) w:=by
   cases hm:μ (hs c).size with
   |none=>
    have e:cut μ (hs (c+1)).size=cut μ (hs c).size:=by
     funext b
     unfold cut;by_cases e1:b<(hs c).size
     ·rw[if_pos e1,if_pos om]
     ·rw[if_neg e1];split
      ·have:b=(hs c).size:=by omega
       rw[this];exact hm
      ·rfl
    rw[e];exact Hp
   |some m=>
    have e:cut μ (hs (c+1)).size=kl (cut μ (hs c).size) (hs c).size m:=by
     funext b
     unfold cut kl;by_cases e1:b=(hs c).size
     ·subst e1;rw[if_pos om,if_pos rfl,hm]
     ·rw[if_neg e1];show _=if b<(hs c).size then μ b else none
      by_cases e2:b<(hs c).size
      ·rw[if_pos e2,if_pos om]
      ·rw[if_neg e2,if_neg om]
    obtain⟨j,yB,o',k1,k2,k3,k4,k5,k6,k7⟩:=C.wu _ m (Nat.le_refl _) hm;have hjc:j=c:=(Al.inj X eC k3 k4).symm;subst hjc;have hmd:yB.obj (hs j).size=md.obj (hs j).size:=by
     have h3:=k3.2.2;have:(hs (j+1)).get (hs j).size=some (yB.obj (hs j).size):=by rw[h3,ab.ao,if_pos rfl]
     rw[eH]at this;exact(Option.some.inj this).symm
    rw[e];refine Hp.Hf om eH (by unfold cut;rw[if_neg om]) om om k5 ?_ (fun cs f cO aO e=>⟨(ko cs f cO aO e).1,Nat.le_of_eq (ko cs f cO aO e).2.symm⟩) (fun _ _ _=>k6.2) ?_
    ·intro d md2 hd he;have Tq:=dD.1 hd;have:=C.apart _ _ _ _ (Nat.le_refl _) hm Tq.2 he.symm;omega
    ·rw[←hmd];exact k7 _ _ _ (by
      rw[←e];exact gF μ.le_refl om)
  refine⟨hc,WU,rH,C.O1,C.grow,C.new,?_,?_,?_,?_,?_⟩
  ·intro b hb h0;rw[hold b om];exact C.GZ b hb h0
  ·intro j yB hj ha hl;by_cases e:j=c
   ·subst e;have hmd:yB.obj (hs j).size=md.obj (hs j).size:=by
     have h3:=ha.2.2;have:(hs (j+1)).get (hs j).size=some (yB.obj (hs j).size):=by rw[h3,ab.ao,if_pos rfl]
     rw[eH]at this;exact(Option.some.inj this).symm
    refine⟨?_,by rw[hmd];exact eH⟩;cases hm:μ (hs j).size with
    |none=>rfl
    |some m=>
     obtain⟨j',md2,o',k1,k2,k3,k4,_⟩:=C.wu _ m (Nat.le_refl _) hm;have:j'=j:=(Al.inj X eC k3 k4).symm;subst this;rw[hl]at k2;cases k2
   ·obtain⟨q1,q2⟩:=C.late j yB om ha hl;have hjs:(hs j).size<(hs c).size:=by
     have:=X.mono (i:=j+1) (j:=c) om C.cN;rw[ha.size]at this;omega
    exact⟨q1,by rw[hold _ hjs];exact q2⟩
  ·intro j yB hj;exact C.bl j yB om
  ·intro b m hb hm;obtain⟨j,yB,o',k1,k2,k3,k4,k5⟩:=C.wu b m om hm;have:j≠c:=fun h=>by subst h;omega
   exact⟨j,yB,o',om,k2,k3,k4,k5⟩
  ·intro b1 b2 m1 m2 oC;exact C.apart b1 b2 m1 m2 om
 ·exact absurd h1 (bj _ _)
theorem Core.Ts (X:Fj ops hs lg) (hB:B≤w0.heap.size) (zh:base≤(hs 0).size):∀(n:Nat) {c:Nat},Core E base B ops hs lg jk w0 c L μ w→c+n≤ops.length→(∀i,c≤i→i<c+n→∀h h',lg i≠ .dp h h')→Core E base B ops hs lg jk w0 (c+n) L μ w
 |0,c,C,_,_=>C
 |n+1,c,C,hn,bj=>by
  have:=Core.Ts X hB zh n (c:=c+1) (C.go X om (bj c (Nat.le_refl _) om) hB zh) om (fun i h1 h2=>bj i om om);rw[show c+(n+1)=c+1+n by omega];exact this
theorem Core.CT (C:Core E base B ops hs lg jk w0 c L μ w) {k:Nat} (h1:∀h h',lg k≠ .dp h h') (h2:∀h h',lg k≠ .alloc h h'):Core E base B ops hs lg jk w0 c (qJ L k) μ w:=by
 have eC:∀{j md},Al ops hs lg j md→j≠k:=fun ha e=>by subst e;exact h2 _ _ ha.2.1
 refine⟨C.cN,?_,C.rel,C.O1,C.grow,C.new,C.GZ,?_,?_,?_,C.apart⟩
 ·intro j h h' hj hl;rw[gS (fun e=>by subst e;exact h1 _ _ hl)];exact C.CQ j h h' hj hl
 ·intro j md hj ha hl;rw[gS (eC ha)]at hl;exact C.late j md hj ha hl
 ·intro j md hj ha hl;rw[gS (eC ha)]at hl;exact C.bl j md hj ha hl
 ·intro b m hb hm;obtain⟨j,md,o',k1,k2,k3⟩:=C.wu b m hb hm;exact⟨j,md,o',k1,nj k2,k3⟩
end
section
variable {E:Env} {base B:Nat} {ops:List Oper} {hs:Nat→ab} {lg:Nat→ee}
variable {jk:bn} {w0:World} {c:Nat} {L:Nat→Bool} {μ:bn} {w w':World}
theorem Core.lt (C:Core E base B ops hs lg jk w0 c L μ w) {b:Nat} {m:MT} (hm:μ b=some m):m.r<w.heap.size:=by
 by_cases hb:b<(hs c).size
 ·exact C.rel.lt (dD.2 ⟨hb,hm⟩)
 ·obtain⟨j,md,o',_,_,_,_,k5,_⟩:=C.wu b m om hm;exact(Array.getElem?_eq_some_iff.1 k5).1
theorem Core.alloc (X:Fj ops hs lg) (C:Core E base B ops hs lg jk w0 c L μ w) (hB:B≤w0.heap.size) (zh:base≤(hs 0).size) {k:Nat} {md:Made} (ha:Al ops hs lg k md) (hk:L k=false) {o':Obj} (hw:Cs w o' w') {n:Nat}
 (IX:∀aS h b',(cut μ (max (hs k).size (hs c).size)).le aS→iM aS h base b' ⟨w.heap.size,0,n⟩ (md.obj b') o'):
 μ.le (kl μ (hs k).size ⟨w.heap.size,0,n⟩)∧Core E base B ops hs lg jk w0 c (qJ L k) (kl μ (hs k).size ⟨w.heap.size,0,n⟩) w':=by
 have fG:=ha.size;have vR:=X.mono (i:=0) (j:=k) (Nat.zero_le _) (by have:=ha.1;omega);have vq:∀{j:Nat} {yB:Made},Al ops hs lg j yB→(hs c).size≤(hs j).size→c≤j:=by
  intro j yB hj hle;by_cases h:c≤j
  ·exact h
  ·have:=X.mono (i:=j+1) (j:=c) om C.cN;rw[hj.size]at this;omega
 have WV:μ (hs k).size=none:=by
  by_cases Za:k<c
  ·exact(C.late k md Za ha hk).1
  ·cases hm:μ (hs k).size with
   |none=>rfl
   |some m=>
    obtain⟨j,yB,o2,k1,k2,k3,k4,_⟩:=C.wu _ m (X.mono om (by have:=ha.1;omega)) hm;have:k=j:=Al.inj X ha k3 k4;subst this;rw[hk]at k2;cases k2
 have hle:μ.le (kl μ (hs k).size ⟨w.heap.size,0,n⟩):=gh WV;have kR:∀{d:Nat} {md:MT},kl μ (hs k).size ⟨w.heap.size,0,n⟩ d=some md→(d=(hs k).size∧md=⟨w.heap.size,0,n⟩)∨(d≠(hs k).size∧μ d=some md):=by
  intro d md hd;by_cases e:d=(hs k).size
  ·subst e;rw[bO]at hd;cases hd;exact .inl ⟨rfl,rfl⟩
  ·rw[oB _ _ e]at hd;exact .inr ⟨e,hd⟩
 have hgw:=C.grow.size;have uC:∀r,r<w.heap.size→w'.heap[r]? =w.heap[r]? :=fun r hr=>by rw[hw.get,if_neg om]
 have ko:w'.heap[w.heap.size]? =some o':=by rw[hw.get,if_pos rfl]
 refine⟨hle,C.cN,?_,?_,bn.le_trans C.O1 hle,?_,?_,C.GZ,?_,?_,?_,?_⟩
 ·intro j h h' hj hl;rw[gS (fun e=>by subst e;have:=ha.2.1;rw[hl]at this;cases this)];exact C.CQ j h h' hj hl
 ·by_cases Za:k<c
  ·have zk:(hs k).size<(hs c).size:=by
    have:=X.mono (i:=k+1) (j:=c) om C.cN;omega
   have e:cut (kl μ (hs k).size ⟨w.heap.size,0,n⟩) (hs c).size=kl (cut μ (hs c).size) (hs k).size ⟨w.heap.size,0,n⟩:=by
    funext b
    unfold cut kl;by_cases e1:b=(hs k).size
    ·subst e1;rw[if_pos zk];simp
    ·rw[if_neg e1];rw[if_neg e1]
   obtain⟨q1,q2⟩:=C.late k md Za ha hk;have EG:max (hs k).size (hs c).size=(hs c).size:=Nat.max_eq_right om;rw[e];refine(C.rel.Z0 hw).Hf zk q2 (by unfold cut;rw[if_pos zk];exact q1) om (by show B≤w.heap.size;omega) ko ?_ (fun cs f cO aO e=>⟨(tA md _ cs f cO aO e).1,Nat.le_of_eq (tA md _ cs f cO aO e).2.symm⟩) (fun _ _ _=>rfl) ?_
   ·intro d md2 hd he;have:=C.lt (dD.1 hd).2;simp only at he;omega
   ·refine IX _ _ _ ?_;rw[EG];exact gh (by unfold cut;rw[if_pos zk];exact q1)
  ·have zk:(hs c).size≤(hs k).size:=X.mono om (by have:=ha.1;omega);have e:cut (kl μ (hs k).size ⟨w.heap.size,0,n⟩) (hs c).size=cut μ (hs c).size:=by
    funext b
    unfold cut kl;by_cases e1:b<(hs c).size
    ·rw[if_pos e1,if_pos e1,if_neg om]
    ·rw[if_neg e1,if_neg e1]
   rw[e];exact C.rel.Z0 hw
 ·refine⟨hw.tape.trans C.grow.tape,hw.os.trans C.grow.os,hw.output.trans C.grow.output,by rw[hw.size];omega,fun r hr hk=>?_⟩;rw[uC r om];exact C.grow.bk r hr hk
 ·intro b m h0 hm;rcases kR hm with⟨rfl,rfl⟩|⟨_,h2⟩
  ·exact⟨vR,om,.inl hgw⟩
  ·exact C.new b m h0 h2
 ·intro j yB hj RD hl;have bj:j≠k:=fun e=>by subst e;rw[pC]at hl;cases hl
  rw[gS bj]at hl;obtain⟨q1,q2⟩:=C.late j yB hj RD hl;exact⟨by rw[oB _ _ (fun e=>bj (Al.inj X RD ha e))];exact q1,q2⟩
 ·intro j yB hj RD hl;by_cases e:j=k
  ·subst e;exact⟨_,bO _ _ _⟩
  ·rw[gS e]at hl;obtain⟨m,hm⟩:=C.bl j yB hj RD hl;exact⟨m,hle _ _ hm⟩
 ·intro b m hb hm;rcases kR hm with⟨rfl,rfl⟩|⟨_,h2⟩
  ·have sX:=vq ha hb;have EG:max (hs k).size (hs c).size=(hs k).size:=Nat.max_eq_left hb;exact⟨k,md,o',sX,pC _ _,ha,rfl,ko,⟨hgw,rfl⟩,fun aS h b' s9=>IX aS h b' (by rw[EG];exact bn.le_trans (gF hle (Nat.le_refl _)) s9)⟩
  ·obtain⟨j,yB,o2,k1,k2,k3,k4,k5,k6,k7⟩:=C.wu b m hb h2;exact⟨j,yB,o2,k1,nj k2,k3,k4,by rw[uC _ (C.lt h2)];exact k5,k6,fun aS h b' s9=>k7 aS h b' (bn.le_trans (gF hle (Nat.le_refl _)) s9)⟩
 ·intro b1 b2 m1 m2 oC h1 h2 he;rcases kR h1 with⟨rfl,rfl⟩|⟨_,h1⟩<;>rcases kR h2 with⟨rfl,rfl⟩|⟨_,h2⟩
  ·rfl
  ·have:=C.lt h2;simp only at he;omega
  ·have:=C.lt h1;simp only at he;omega
  ·exact C.apart b1 b2 m1 m2 oC h1 h2 he
theorem Core.dp (X:Fj ops hs lg) (C:Core E base B ops hs lg jk w0 c L μ w) (hc:c<ops.length) (he:lg c= .dp (hs c) (hs (c+1))) {fK:bn} {w1:World} (S:Step E base B (cut μ (hs c).size) (hs c) w fK (hs (c+1)) w1):
 ∃aS,μ.le aS∧cut aS (hs (c+1)).size=fK∧Core E base B ops hs lg jk w0 (c+1) (qJ L c) aS w1:=by
 have ct:=X.step hc;have Pt:∀{j md},Al ops hs lg j md→j≠c:=fun ha e=>by subst e;have:=ha.2.1;rw[he]at this;cases this
 -- whoever is made early stands behind
 have WW:∀b m,(hs c).size≤b→μ b=some m→(hs (c+1)).size≤b:=by
  intro b m hb hm;obtain⟨j,md,o',k1,k2,k3,k4,_⟩:=C.wu b m hb hm;have:=Pt k3;rw[k4];exact X.mono om (by have:=k3.1;omega)
 let aS:bn:=fun b=>if b<(hs (c+1)).size then fK b else μ b
 have bF:∀b,b<(hs (c+1)).size→aS b=fK b:=fun b hb=>if_pos hb;have vq:∀b,(hs (c+1)).size≤b→aS b=μ b:=fun b hb=>if_neg om;have hle:μ.le aS:=by
  intro b m hm;by_cases hb:b<(hs (c+1)).size
  ·rw[bF b hb];refine S.le b m (dD.2 ⟨?_,hm⟩);by_cases h2:b<(hs c).size
   ·exact h2
   ·have:=WW b m om hm;omega
  ·rw[vq b om];exact hm
 have Pu:cut aS (hs (c+1)).size=fK:=by
  funext b
  unfold cut;by_cases hb:b<(hs (c+1)).size
  ·rw[if_pos hb,bF b hb]
  ·rw[if_neg hb];cases hm:fK b with
   |none=>rfl
   |some m=>have:=S.rel.gg b m hm;omega
 have uC:∀b m,(hs c).size≤b→μ b=some m→w1.heap[m.r]? =w.heap[m.r]? :=by
  intro b m hb hm;refine S.grow.bk m.r (C.lt hm) fun b2 m2 rA RE=>?_;have h2:=dD.1 rA;have:=C.apart b b2 m m2 hb hm h2.2 RE.symm;omega
 have kR:∀{b:Nat} {m:MT},aS b=some m→(μ b=some m)∨(μ b=none∧b<(hs (c+1)).size∧(hs c).size≤b∧base≤b∧(w.heap.size≤m.r∨∃b0 m0,base≤b0∧b0<(hs c).size∧μ b0=some m0∧m0.r=m.r)):=by
  intro b m hm;cases h0:μ b with
  |some m0=>have:=hle b m0 h0;rw[hm]at this;cases this;exact .inl rfl
  |none=>
   by_cases hb:b<(hs (c+1)).size
   ·rw[bF b hb]at hm;have hn:cut μ (hs c).size b=none:=by unfold cut;split<;>first|exact h0|rfl
    obtain⟨q1,q2,q3⟩:=S.new b m hn hm;refine .inr ⟨rfl,hb,q1,q2,?_⟩;rcases q3 with q3|⟨b0,m0,q3,q4,q5⟩
    ·exact .inl q3
    ·have:=dD.1 q4;exact .inr ⟨b0,m0,q3,this.1,this.2,q5⟩
   ·rw[vq b om,h0]at hm;cases hm
 refine⟨aS,hle,Pu,hc,?_,by rw[Pu];exact S.rel,bn.le_trans C.O1 hle,?_,?_,?_,?_,?_,?_,?_⟩
 ·intro j h h' hj hl;by_cases e:j=c
  ·subst e;rw[pC];simp
  ·rw[gS e,C.CQ j h h' hj hl];omega
 ·refine⟨S.grow.tape.trans C.grow.tape,S.grow.os.trans C.grow.os,S.grow.output.trans C.grow.output,Nat.le_trans C.grow.size S.grow.size,fun r hr hk=>?_⟩;rw[S.grow.bk r (Nat.lt_of_lt_of_le hr C.grow.size) ?_,C.grow.bk r hr hk];intro b m hb Wk;have hm:=(dD.1 hb).2;cases h0:jk b with
  |some m0=>
   have:=C.O1 b m0 h0;rw[hm]at this;cases this;exact hk b m h0 Wk
  |none=>
   obtain⟨_,_,h3⟩:=C.new b m h0 hm;rcases h3 with h3|⟨b0,m0,zh,EW,G0⟩
   ·omega
   ·have:=hk b0 m0 EW (G0.trans Wk);omega
 ·intro b m h0 hm;rcases kR hm with hm|⟨hn,oC,rA,KN,VS⟩
  ·exact C.new b m h0 hm
  ·have vR:=X.mono (i:=0) (j:=c) (Nat.zero_le _) C.cN;refine⟨om,KN,?_⟩;rcases VS with VS|⟨b0,m0,q1,q2,q3,q4⟩
   ·exact .inl (Nat.le_trans C.grow.size VS)
   ·cases vR:jk b0 with
    |some ZK=>
     have:=C.O1 b0 ZK vR;rw[q3]at this;cases this;exact .inr ⟨b0,m0,q1,vR,q4⟩
    |none=>
     obtain⟨_,_,hx⟩:=C.new b0 m0 vR q3;rcases hx with hx|⟨b1,m1,r1,r2,r3⟩
     ·exact .inl om
     ·exact .inr ⟨b1,m1,r1,r2,r3.trans q4⟩
 ·intro b hb h0;have vR:=X.mono (i:=0) (j:=c) (Nat.zero_le _) C.cN;rw[S.GZ b om ?_,C.GZ b hb h0];cases hm:cut μ (hs c).size b with
  |none=>rfl
  |some m=>have:=(C.new b m h0 (dD.1 hm).2).1;omega
 ·intro j md hj ha hl;have bj:=Pt ha;rw[gS bj]at hl;obtain⟨q1,q2⟩:=C.late j md om ha hl;have hjs:(hs j).size<(hs c).size:=by
   have:=X.mono (i:=j+1) (j:=c) om C.cN;rw[ha.size]at this;omega
  have hn:cut μ (hs c).size (hs j).size=none:=by unfold cut;split<;>first|exact q1|rfl
  refine⟨?_,by rw[S.GZ _ hjs hn];exact q2⟩;rw[bF _ om];cases hm:fK (hs j).size with
  |none=>rfl
  |some m=>have:=(S.new _ m hn hm).1;omega
 ·intro j md hj ha hl;rw[gS (Pt ha)]at hl;obtain⟨m,hm⟩:=C.bl j md om ha hl;exact⟨m,hle _ _ hm⟩
 ·intro b m hb hm;rw[vq b hb]at hm;obtain⟨j,md,o',k1,k2,k3,k4,k5,k6,k7⟩:=C.wu b m om hm;have:=Pt k3;exact⟨j,md,o',om,nj k2,k3,k4,by rw[uC b m om hm];exact k5,k6,fun uq h b' s9=>k7 uq h b' (bn.le_trans (gF hle (Nat.le_refl _)) s9)⟩
 ·intro b1 b2 m1 m2 oC h1 h2 hr;rw[vq b1 oC]at h1;rcases kR h2 with h2|⟨hn,_,rA,_,VS⟩
  ·exact C.apart b1 b2 m1 m2 om h1 h2 hr
  ·have IY:=C.lt h1;rcases VS with VS|⟨b0,m0,q1,q2,q3,q4⟩
   ·omega
   ·have:=C.apart b1 b0 m1 m0 om h1 q3 (hr.trans q4.symm);omega
end
section
variable {P:Program} {E:Env} {base B:Nat} {cf:fD} {rf:eP} {ops:List Oper} {fs:Nat→AF} {hs:Nat→ab} {vs:Nat→Value} {lg:Nat→ee}
variable {jk:bn} {w0:World} {a0:Act} {c:Nat} {L:Nat→Bool} {μ aS:bn} {w w':World} {a:Act}
structure ml (ops:List Oper) (fs:Nat→AF) (hs:Nat→ab) (vs:Nat→Value) (jk:bn) (a0:Act) (c:Nat) (L:Nat→Bool) (μ:bn) (a:Act):Prop where
 size:a.tmps.size=(fs 0).n
 Zb:a.defers=a0.defers
 w:∀(j:Nat) (o:Oper) (d:Tmp),ops[j]? =some o→L j=true→o.dst=some d→aq (cut μ (max (hs (j+1)).size (hs c).size)) (vs j) (a.tmps.getD d undef)
 old:∀d:Tmp,(∀(j:Nat) (o:Oper),ops[j]? =some o→L j=true→o.dst≠some d)→aq jk ((fs 0).get d) (a.tmps.getD d undef)
theorem ml.mono (S:ml ops fs hs vs jk a0 c L μ a) (hle:μ.le aS) {c':Nat} (hc:(hs c).size≤(hs c').size):ml ops fs hs vs jk a0 c' L aS a:=
 ⟨S.size,S.Zb,fun j o d ho hl hd=>(S.w j o d ho hl hd).mono (gF hle om),S.old⟩
theorem ml.put (X:nh ops) (hd:jO (fs 0).n ops=true) (S:ml ops fs hs vs jk a0 c L μ a) {k:Nat} {o:Oper} (ho:ops[k]? =some o) (hk:L k=false) {v':Value}
 (hv:aq (cut μ (max (hs (k+1)).size (hs c).size)) (vs k) v'):ml ops fs hs vs jk a0 c (qJ L k) μ (a.put o.dst v'):=by
 have eH:∀t,o.dst≠some t→(a.put o.dst v').tmps.getD t undef=a.tmps.getD t undef:=by
  intro t ht;cases hd:o.dst with
  |none=>rfl
  |some d=>
   rw[hd]at ht;have bj:d≠t:=fun h=>ht (by rw[h]);show(a.tmps.setIfInBounds d v').getD t undef=_;simp only[Array.getD_eq_getD_getElem?,Array.getElem?_setIfInBounds_ne bj]
 refine⟨?_,?_,?_,?_⟩
 ·rw[←S.size];cases o.dst with
  |none=>rfl
  |some d=>exact Array.size_setIfInBounds
 ·rw[←S.Zb];cases o.dst<;>rfl
 ·intro j p d hp hl Zc;by_cases e:j=k
  ·subst e;rw[ho]at hp;cases hp;have bF:d<a.tmps.size:=by
    rw[S.size];unfold jO at hd;have:=List.all_eq_true.1 hd o (List.mem_of_getElem? ho);rw[Zc]at this;simpa using this
   have:(a.put o.dst v').tmps.getD d undef=v':=by
    rw[Zc];show(a.tmps.setIfInBounds d v').getD d undef=v';simp[bF]
   rw[this];exact hv
  ·rw[gS e]at hl;rw[eH d (X.one k j o p d ho hp (fun h=>e h.symm) Zc)];exact S.w j p d hp hl Zc
 ·intro d Cl;rw[eH d (Cl k o ho (pC _ _))];exact S.old d fun j p hp hl=>Cl j p hp (nj hl)
theorem ml.skip (S:ml ops fs hs vs jk a0 c L μ a) {k:Nat} (hk:∀o,ops[k]? =some o→o.dst=none):ml ops fs hs vs jk a0 c (qJ L k) μ a:=by
 refine⟨S.size,S.Zb,fun j o d ho hl hd=>?_,fun d Cl=>S.old d fun j p hp hl=>Cl j p hp (nj hl)⟩;by_cases e:j=k
 ·subst e;rw[hk o ho]at hd;cases hd
 ·rw[gS e]at hl;exact S.w j o d ho hl hd
theorem ml.look (X:nh ops) (T:Trace E base cf rf ops ops fs hs vs lg) (K:Fj ops hs lg) (rV:jO (fs 0).n ops=true) (s9:jk.le μ) (aae:∀b m,jk b=some m→b<(hs 0).size)
 (S:ml ops fs hs vs jk a0 c L μ a) (hC:qI ops L) {k:Nat} {o:Oper} (ho:ops[k]? =some o) (hk:L k=false) (hr:wo ops L o) {t:Tmp} (ht:t∈looks ops o):
 aq (cut μ (max (hs k).size (hs c).size)) ((fs k).get t) (a.tmps.getD t undef):=by
 have O2:k<ops.length:=(List.getElem?_eq_some_iff.1 ho).1;have vR:=K.mono (i:=0) (j:=k) (Nat.zero_le _) om;have RF:(∀(j:Nat) (p:Oper),j<k→ops[j]? =some p→p.dst≠some t)→(∀(j:Nat) (p:Oper),ops[j]? =some p→L j=true→p.dst≠some t)→aq (cut μ (max (hs k).size (hs c).size)) ((fs k).get t) (a.tmps.getD t undef):=by
  intro h1 h2;rw[T.Lu t k om fun j p hj hp=>h1 j p hj hp];exact(S.old t h2).mono (Lx s9 fun b m hb=>by have:=aae b m hb;omega)
 by_cases hex:∃j p,ops[j]? =some p∧p.dst=some t∧j≠k
 ·obtain⟨j,p,hp,hd,bj⟩:=hex;have WX:=X.look k j o p t ho hp (fun h=>bj h.symm) hd ht;have RH:∀(i:Nat) (q:Oper),ops[i]? =some q→q.dst=some t→i=j:=fun i q hq Pv=>by
   by_cases e:i=j
   ·exact e
   ·exact absurd Pv (X.one i j q p t hq hp e hd)
  rcases Nat.lt_trichotomy j k with bF|he|gG
  ·have hl:=fO X hC bF ho hr (.inr WX);have htn:t<(fs 0).n:=by
    unfold jO at rV;have:=List.all_eq_true.1 rV p (List.mem_of_getElem? hp);rw[hd]at this;simpa using this
   rw[T.Lv X htn hp hd k om bF];exact(S.w j p t hp hl hd).mono (gF μ.le_refl (by have:=K.mono (i:=j+1) (j:=k) bF om;omega))
  ·exact absurd he bj
  ·have yv:L j=false:=by
    cases hl:L j with
    |false=>rfl
    |true=>
     have:=fO X hC gG hp (hC j p hp hl) (.inl WX);rw[hk]at this;cases this
   refine RF (fun i q hi hq Pv=>?_) (fun i q hq hl Pv=>?_)
   ·have:=RH i q hq Pv;omega
   ·have:=RH i q hq Pv;subst this;rw[yv]at hl;cases hl
 ·refine RF (fun i q hi hq Pv=>hex ⟨i,q,hq,Pv,om⟩) (fun i q hq hl Pv=>?_);by_cases e:i=k
  ·subst e;rw[hk]at hl;cases hl
  ·exact hex ⟨i,q,hq,Pv,e⟩
structure Inv (E:Env) (base B:Nat) (ops:List Oper) (fs:Nat→AF) (hs:Nat→ab) (vs:Nat→Value) (lg:Nat→ee) (jk:bn) (w0:World) (a0:Act) (L:Nat→Bool) (a:Act) (w:World):Prop where
 ex:∃c μ,Core E base B ops hs lg jk w0 c L μ w∧ml ops fs hs vs jk a0 c L μ a
theorem Fk {k:Nat} {o:Oper} (hC:qI ops L) (ho:ops[k]? =some o) (hr:wo ops L o):qI ops (qJ L k):=by
 intro j p hp hl e he hb;by_cases WT:j=k
 ·subst WT;rw[ho]at hp;cases hp;exact nj (hr e he hb)
 ·rw[gS WT]at hl;exact nj (hC j p hp hl e he hb)
theorem Pw (hE:bw P E) (yO:jQ P E base B cf) (AY:m8 P E base B rf) (AZ:m9 E cf) (A0:kB rf) {F:Fence} (hF:gV F) {n:Nat} {ops:Array Oper}
 (X:nh ops.toList) (T:Trace E base cf rf ops.toList ops.toList fs hs vs lg) (K:Fj ops.toList hs lg) (rV:jO (fs 0).n ops.toList=true) (H0:bf E base B jk (hs 0) w0)
 (I:Inv E base B ops.toList fs hs vs lg jk w0 a0 L a w) (hC:qI ops.toList L) {k:Nat} {o:Oper} (ho:ops[k]? =some o) (hk:L k=false) (hr:wo ops.toList L o)
 {next:Act→World→Prop} {Q:Exit→Act→World→Prop} (hn:∀a' w',Inv E base B ops.toList fs hs vs lg jk w0 a0 (qJ L k) a' w'→next a' w'):
 if Region.wanted o (yielded ops a.tmps)=true then o.wpIn F n P a w next Q else(∀f,o.about P w a.eval=some f→F.fn f)∧next (a.put o.dst undef) w:=by
 obtain⟨c,μ,C,S⟩:=I.ex;have IJ:ops.toList[k]? =some o:=by simpa using ho
 have O2:k<ops.toList.length:=(List.getElem?_eq_some_iff.1 IJ).1;have hB:B≤w0.heap.size:=H0.low;have zh:base≤(hs 0).size:=H0.l8;have Zd:∀s,(hs 0).size≤s→gk E (cut μ s):=fun s WY g Tp=>by
  obtain⟨m,q1,q2⟩:=H0.dv g Tp;exact⟨m,dD.2 ⟨by have:=H0.gg g m q1;omega,C.O1 _ _ q1⟩,q2⟩
 have h0k:=K.mono (i:=0) (j:=k) (Nat.zero_le _) om
 have hf:cU (cut μ (max (hs k).size (hs c).size)) ((fs k).only (looks ops.toList o)) (zo a (looks ops.toList o)).tmps:=
  Ls (by rw[S.size,T.To k om]) fun t ht=>S.look X T K rV C.O1 H0.gg hC IJ hk hr ht
 have hgk:gk E (cut μ (max (hs k).size (hs c).size)):=Zd _ om;have qe:Region.wanted o (yielded ops a.tmps)=wanted ops.toList o (fs k):=by
  rw[←A9,qF hf o,CO]
 have Za:(hs k).size≤(hs (k+1)).size:=K.step O2;rcases T.run k o IJ with⟨hw,gl⟩|⟨hw,hv,hh,uD⟩
 ·rw[qe,if_pos hw];have aah:=noSelect gl;have Tt:=AX gl;have RI:eL E base cf rf o ((fs k).only (looks ops.toList o)) (hs k)=some ⟨vs k,hs (k+1),lg k⟩:=by rw[Ff (IT _ _ _)];exact gl
  have hex:execOp a.eval o=execOp (zo a (looks ops.toList o)).eval o:=IV aah
  -- an operation that turns no memory
  have quiet:∀v',aq (cut μ (max (hs k).size (hs c).size)) (vs k) v'→(∀h h',lg k≠ .dp h h')→(∀h h',lg k≠ .alloc h h')→next (a.put o.dst v') w:=by
   intro v' hv h1 h2;exact hn _ _ ⟨c,μ,C.CT h1 h2,S.put X rV IJ hk (hv.mono (gF μ.le_refl om))⟩
  rcases uy RI with⟨hp,hh,uD⟩|⟨q,hq,hv,hh,uD⟩|⟨md,hd,eC,hv,hh,uD⟩|uD
  ·-- plain
   obtain⟨v',q1,q2⟩:=py hE hgk hf hp;refine⟨fun _ _=>hF.fn _,?_⟩;rw[Oper.semAt_eq _ _ _ Tt,hex,q2 w];exact quiet v' q1 (fun h h' e=>by simp only at uD;rw[uD]at e;cases e) (fun h h' e=>by simp only at uD;rw[uD]at e;cases e)
  ·-- a read
   simp only at hv hh uD;have hqk:q.dw<(hs k).size:=by
    rcases K.kind k O2 with⟨h1,_⟩|⟨q',h1,_,h3⟩|⟨md,h1,_⟩|⟨h1,_⟩<;>rw[uD]at h1<;>cases h1
    exact h3
   -- who may come between
   have CU:∀i,i<ops.toList.length→i≠k→lg i= .alloc (hs i) (hs (i+1))→qu (hs i) q=true:=by
    intro i hi bj WZ;rcases Nat.lt_or_ge i k with h1|h1
    ·have hp:=K.pass i k h1 O2;rw[WZ,uD]at hp;exact hp
    ·have hp:=K.pass k i om hi;rw[WZ,uD]at hp;exact hp
   have oM:∀i,i<ops.toList.length→i≠k→(lg i= .dp (hs i) (hs (i+1))∧(c≤i∧i<k∨k<i∧i<c))→fx (hs i) (hs (i+1)) q=true:=by
    intro i hi bj rM
    ·obtain⟨hie,aaj⟩:=rM;have hL:=C.CQ i _ _ hi hie;have hio:=List.getElem?_eq_getElem (l:=ops.toList) (i:=i) hi;rcases aaj with⟨h1,h2⟩|⟨h1,h2⟩
     ·have hp:=K.pass i k h2 O2;rw[hie,uD]at hp;simp only[aV,Bool.or_eq_true]at hp;rcases hp with hp|hp
      ·have:=hL.1 (fO X hC h2 IJ hr (.inl hp));omega
      ·exact hp
     ·have hp:=K.pass k i h1 hi;rw[hie,uD]at hp;simp only[aV,Bool.or_eq_true]at hp;rcases hp with hp|hp
      ·have Ze:=hL.2 h2;have:=fO X hC h1 hio (hC i _ hio Ze) (.inl hp);rw[hk]at this;cases this
      ·exact hp
   obtain⟨v',q1,q2⟩:=IQ (base:=base) (w:=w) hE hf hgk (v:=vs k) hq (fun m hm=>by
    have W2:=(dD.1 hm).2;by_cases Wq:q.dw<(hs c).size
    ·refine⟨hs c,?_,?_⟩
     ·rcases Nat.le_total k c with Tu|Tu
      ·rw[K.chain hqk Tu C.cN fun i h1 h2=>⟨fun h3=>?_,fun h3=>?_⟩];·exact hv
       ·have bj:i≠k:=fun e=>by
         subst e;rw[uD]at h3;cases h3
        exact oM i (by have:=C.cN;omega) bj ⟨h3,.inr ⟨om,h2⟩⟩
       ·have bj:i≠k:=fun e=>by
         subst e;rw[uD]at h3;cases h3
        exact CU i (by have:=C.cN;omega) bj h3
      ·rw[←K.chain Wq Tu om fun i h1 h2=>⟨fun h3=>?_,fun h3=>?_⟩];·exact hv
       ·exact oM i om om ⟨h3,.inl ⟨h1,h2⟩⟩
       ·exact CU i om om h3
     ·obtain⟨p,p',k1,k2,k3⟩:=C.rel.obj q.dw m (dD.2 ⟨Wq,W2⟩);exact⟨p,p',k1,k2,k3.mono (gF μ.le_refl om) id⟩
    ·obtain⟨j,md,o',k1,k2,k3,k4,k5,k6,k7⟩:=C.wu q.dw m om W2;have WT:j<k:=by
      rcases Nat.lt_or_ge j k with h|h
      ·exact h
      ·have:=K.mono h (by have:=k3.1;omega);omega
     have uE:=k3.size;refine⟨hs (j+1),?_,md.obj q.dw,o',?_,k5,?_⟩
     ·rw[←K.chain (lo:=j+1) (hi:=k) om WT om fun i h1 h2=>⟨fun h3=>?_,fun h3=>?_⟩];·exact hv
      ·exact oM i om om ⟨h3,.inl ⟨om,h2⟩⟩
      ·exact CU i om om h3
     ·rw[k3.2.2,ab.ao,if_pos k4,←k4]
     ·exact k7 _ _ _ (gF μ.le_refl om))
   refine⟨fun _ _=>hF.fn _,?_⟩;rw[Oper.semAt_eq _ _ _ Tt,hex,q2];exact quiet v' q1 (fun h h' e=>by rw[uD]at e;cases e) (fun h h' e=>by rw[uD]at e;cases e)
  ·-- a block is made
   simp only at hv hh uD;obtain⟨o',k',hvf,A⟩:=m3 hE hgk hf eC;have ha:Al ops.toList hs lg k md:=⟨O2,uD,hh⟩;refine⟨fun _ _=>hF.fn _,?_⟩;rw[Oper.semAt_eq _ _ _ Tt,hex,A.run w];obtain⟨hle,C'⟩:=C.alloc K hB zh ha hk (Cs.mk' w o') (n:=k') fun aS h b' s9=>A.obj aS h base b' _ s9;refine hn _ _ ⟨c,_,C',(S.mono hle (Nat.le_refl _)).put X rV IJ hk ?_⟩;rw[hv];refine A.val _ _ _ (dD.2 ⟨?_,bO _ _ _⟩);have:=ha.size;omega
  ·-- memory is turned
   have O3:lg k= .dp (hs k) (hs (k+1)):=uD;have sX:c≤k:=by
    have:=C.CQ k _ _ O2 O3;rw[hk]at this;rcases Nat.lt_or_ge k c with h|h
    ·exact absurd (this.2 h) (by simp)
    ·exact h
   have LC:∀i,c≤i→i<k→∀h h',lg i≠ .dp h h':=by
    intro i h1 h2 g g' e;have hL:=C.CQ i _ _ om e;have hp:=K.pass i k h2 O2;rw[e,O3]at hp;simp only[aV]at hp;have:=hL.1 (fO X hC h2 IJ hr (.inl hp));omega
   have Ck:=C.Ts K hB zh (k - c) om (fun i h1 h2=>LC i h1 om);rw[show c+(k - c)=k by omega]at Ck;have EG:max (hs k).size (hs c).size=(hs k).size:=Nat.max_eq_left (K.mono sX om);rw[EG]at hf;have Sk:ml ops.toList fs hs vs jk a0 k L μ a:=S.mono μ.le_refl (K.mono sX om);refine Ps hE yO AY AZ A0 hF hf Ck.rel RI hex fun fK v' w1 q1 q2=>?_;obtain⟨aS,e1,e2,C'⟩:=Ck.dp K O2 O3 q2;refine hn _ _ ⟨k+1,aS,C',(Sk.mono e1 (K.step O2)).put X rV IJ hk ?_⟩;rw[Nat.max_self,e2];exact q1
 ·rw[qe,if_neg (by rw[hw];simp)];refine⟨fun _ _=>hF.fn _,hn _ _ ⟨c,μ,C.CT (fun h h' e=>by rw[uD]at e;cases e) (fun h h' e=>by rw[uD]at e;cases e),S.put X rV IJ hk ?_⟩⟩;rw[hv];exact .undef _
end
theorem Tv {E:Env} {base:Nat} {cf:fD} {rf:eP} {all ops:List Oper} {fs:Nat→AF} {hs:Nat→ab} {vs:Nat→Value} {lg:Nat→ee} (T:Trace E base cf rf all ops fs hs vs lg) {tw:List ee}
 (hl:∀j,j<ops.length→tw[j]? =some (lg j)) (hp:kZ (c8 ops []) 0 tw=true):Fj ops hs lg:=by
 obtain⟨k1,k2⟩:=uB hp;refine⟨fun j hj=>?_,fun i j Bb hj=>?_⟩
 ·have hg:=k1 j _ (hl j hj);rcases T.run j _ (List.getElem?_eq_getElem hj)with⟨_,hr⟩|⟨_,_,h1,h2⟩
  ·rcases uy hr with⟨_,h1,h2⟩|⟨q,_,_,h1,h2⟩|⟨md,hd,_,_,h1,h2⟩|h2
   ·exact .inl ⟨h2,h1⟩
   ·simp only at h1 h2;rw[h2]at hg;exact .inr (.inl ⟨q,h2,h1,by simpa[lJ]using hg⟩)
   ·exact .inr (.inr (.inl ⟨md,h2,h1⟩))
   ·simp only at h2;rw[h2]at hg;exact .inr (.inr (.inr ⟨h2,by simpa[lJ]using hg⟩))
  ·exact .inl ⟨h2,h1⟩
 ·have:=k2 i j _ _ Bb (hl i om) (hl j hj);simpa using this
def EK (listed:Array Bool):Nat→Bool:=fun j=>listed.getD j false
theorem Hh {listed:Array Bool} {i:Nat} (hi:i<listed.size):EK (listed.setIfInBounds i true)=qJ (EK listed) i:=by
 funext j
 unfold EK qJ;by_cases e:j=i
 ·subst e;rw[if_pos rfl];simp[hi]
 ·rw[if_neg e];simp only[Array.getD_eq_getD_getElem?,Array.getElem?_setIfInBounds_ne (fun h=>e h.symm)]
theorem mem_ready {ops:Array Oper} {listed:Array Bool} {i:Nat} (hi:i∈Region.ready .any ops listed) (fG:listed.size=ops.size):
 ∃o,ops[i]? =some o∧i<listed.size∧EK listed i=false∧wo ops.toList (EK listed) o:=by
 unfold Region.ready at hi;simp only[List.mem_filter,List.mem_range,Bool.and_eq_true,Bool.not_eq_true']at hi;obtain⟨h1,h2,h3⟩:=hi;have h4:=Array.getElem?_eq_getElem h1;rw[h4]at h3;simp only[Option.map_some,Option.getD_some,Array.all_eq_true_iff_forall_mem,Bool.or_eq_true,Bool.not_eq_true']at h3;refine⟨_,h4,om,?_,fun e he hb=>?_⟩
 ·have bF:i<listed.size:=by omega
  unfold EK;simp only[Array.getD,bF,dif_pos]at h2 ⊢;exact h2
 ·rcases h3 e (by simpa using he)with h5|h5
  ·rw[hb]at h5;cases h5
  ·exact h5
theorem zp {ops:Array Oper} {listed:Array Bool} (X:nh ops.toList) (fG:listed.size=ops.size) (h:Region.ready .any ops listed=[]):∀j,j<ops.size→EK listed j=true:=by
 intro j
 induction j using Nat.strongRecOn with
 |ind j ih=>
  intro hj;cases hl:EK listed j with
  |true=>rfl
  |false=>
   have hm:j∈Region.ready .any ops listed:=by
    unfold Region.ready;simp only[List.mem_filter,List.mem_range,Bool.and_eq_true,Bool.not_eq_true'];have h4:=Array.getElem?_eq_getElem hj;refine⟨hj,?_,?_⟩
    ·have bF:j<listed.size:=by omega
     unfold EK at hl;simp only[Array.getD,bF,dif_pos]at hl ⊢;exact hl
    ·rw[h4];simp only[Option.map_some,Option.getD_some,Array.all_eq_true_iff_forall_mem,Bool.or_eq_true,Bool.not_eq_true'];intro e he;cases hb:Region.binds .any e with
     |false=>exact .inl rfl
     |true=>
      have:=X.WS j _ (by rw[Array.getElem?_toList];exact h4) e (by simpa using he) hb;exact .inr (ih e.on this om)
   rw[h]at hm;cases hm
section
variable {P:Program} {E:Env} {base B:Nat} {cf:fD} {rf:eP} {fs:Nat→AF} {hs:Nat→ab} {vs:Nat→Value} {lg:Nat→ee}
variable {jk:bn} {w0:World} {a0:Act}
theorem LD (hE:bw P E) (yO:jQ P E base B cf) (AY:m8 P E base B rf) (AZ:m9 E cf) (A0:kB rf) {F:Fence} (hF:gV F) {n:Nat} {ops:Array Oper}
 (X:nh ops.toList) (T:Trace E base cf rf ops.toList ops.toList fs hs vs lg) (K:Fj ops.toList hs lg) (rV:jO (fs 0).n ops.toList=true) (H0:bf E base B jk (hs 0) w0)
 {Q:Exit→Act→World→Prop} (hQ:∀L a w,(∀j,j<ops.size→L j=true)→Inv E base B ops.toList fs hs vs lg jk w0 a0 L a w→Q .normal a w):
 ∀(fuel:Nat) (listed:Array Bool) (a:Act) (w:World),listed.size=ops.size→listed.toList.count false≤fuel→qI ops.toList (EK listed)→Inv E base B ops.toList fs hs vs lg jk w0 a0 (EK listed) a w→
  wpAnyIn F n P .any ops Q fuel listed a w:=by
 intro fuel
 induction fuel with
 |zero=>
  intro listed a w fG aak hC I;have IZ:Region.ready .any ops listed=[]:=by
   apply List.eq_nil_iff_forall_not_mem.2;intro i hi;obtain⟨o,_,h2,h3,_⟩:=mem_ready hi fG;have qG:false∈listed.toList:=by
    unfold EK at h3;simp only[Array.getD,h2,dif_pos]at h3;rw[←h3];exact List.mem_of_getElem? (by rw[Array.getElem?_toList];exact Array.getElem?_eq_getElem h2)
   have:=List.count_pos_iff.2 qG;omega
  exact⟨IZ,hQ _ _ _ (zp X fG IZ) I⟩
 |succ fuel ih=>
  intro listed a w fG aak hC I;refine⟨fun IZ=>hQ _ _ _ (zp X fG IZ) I,fun i hi=>?_⟩;obtain⟨o,h1,h2,h3,h4⟩:=mem_ready hi fG;have yu:ops.toList[i]? =some o:=by simpa using h1
  refine wpOpIn_step h1 fun K' hK'=>?_;refine Pw hE yO AY AZ A0 hF X T K rV H0 I hC h1 h3 h4 fun a' w' I'=>hK' _ _ (ih _ _ _ ?_ ?_ ?_ ?_)
  ·rw[Array.size_setIfInBounds];exact fG
  ·rw[Array.toList_setIfInBounds,List.count_set (by simpa using h2)];have eH:listed.toList[i]'(by simpa using h2)=false:=by
    unfold EK at h3;simp only[Array.getD,h2,dif_pos]at h3;simpa using h3
   have qG:false∈listed.toList:=by rw[←eH];exact List.getElem_mem _
   have yJ:=List.count_pos_iff.2 qG;rw[eH];have e1:(if(true==false)=true then 1 else 0)=0:=rfl;have e2:(if(false==false)=true then 1 else 0)=1:=rfl;omega
  ·rw[Hh h2];exact Fk hC yu h4
  ·rw[Hh h2];exact I'
theorem Hi (hE:bw P E) (hm:P.follows .mixedOrders=true):A6 P E base B:=by
 intro cf rf yO AY AZ A0 ops f h f' h' tw ct rV gl W4 μ a w hf H F n id Q hF hQ;obtain⟨fs,hs,vs,lg,T,e1,e2,e3,e4,e5⟩:=CP gl;have X:=Tn ct;have K:=Tv T e5 W4;refine wpIn_region_any hm ?_;have H0:bf E base B μ (hs 0) {w with drawn:=w.drawn+1}:=by rw[e2];exact H.congr rfl
 have Zf:∀j,EK (Array.replicate ops.size false) j=false:=by
  intro j;unfold EK;by_cases hj:j<ops.size
  ·simp[hj]
  ·simp[hj]
 have Pu:cut μ (hs 0).size=μ:=by
  funext b
  unfold cut;split
  ·rfl
  ·cases hb:μ b with
   |none=>rfl
   |some m=>have:=H0.gg b m hb;omega
 have I0:Inv E base B ops.toList fs hs vs lg μ {w with drawn:=w.drawn+1} a (EK (Array.replicate ops.size false)) a {w with drawn:=w.drawn+1}:=by
  refine⟨0,μ,⟨Nat.zero_le _,?_,by rw[Pu];exact H0,μ.le_refl,.refl _ _ _,?_,fun _ _ _=>rfl,?_,?_,?_,?_⟩,⟨?_,rfl,?_,?_⟩⟩
  ·intro j h h' _ _;rw[Zf];simp
  ·intro b m h0 h1;rw[h0]at h1;cases h1
  ·intro j md hj;omega
  ·intro j md _ _ hl;rw[Zf]at hl;cases hl
  ·intro b m hb hm;have:=H0.gg b m hm;omega
  ·intro b1 b2 m1 m2 oC h1;have:=H0.gg b1 m1 h1;omega
  ·rw[e1];exact hf.n.symm
  ·intro j o d _ hl;rw[Zf]at hl;cases hl
  ·intro d _;rw[e1];exact hf.get d
 refine LD hE yO AY AZ A0 hF X T K (by rw[e1];exact rV) H0 (a0:=a) ?_ ops.size _ a _ (by simp) ?_ ?_ I0
 ·intro L a' w' kr I;obtain⟨c,aS,C,S⟩:=I.ex;have hlen:ops.toList.length=ops.size:=by simp
  have Cn:=C.Ts K H0.low H0.l8 (ops.toList.length - c) (by have:=C.cN;omega) (fun i h1 h2 g g' hl=>by
   have h3:i<ops.toList.length:=by have:=C.cN;omega
   have:=(C.CQ i _ _ h3 hl).1 (kr i om);omega)
  have hcN:=C.cN;rw[show c+(ops.toList.length - c)=ops.toList.length by omega]at Cn;have hle:μ.le (cut aS (hs ops.toList.length).size):=Lx Cn.O1 fun b m hb=>by
   have h1:=H0.gg b m hb;have h2:=K.mono (i:=0) (j:=ops.toList.length) (Nat.zero_le _) (Nat.le_refl _);omega
  have St:Step E base B μ (hs 0) {w with drawn:=w.drawn+1} (cut aS (hs ops.toList.length).size) (hs ops.toList.length) w':=
   ⟨Cn.rel,Cn.grow,hle,fun b m h0 h1=>Cn.new b m h0 (dD.1 h1).2,Cn.GZ,K.mono (Nat.zero_le _) (Nat.le_refl _)⟩
  rw[e2,e4]at St;refine hQ _ a' w' ?_ S.Zb ((Step.drawn H _).trans St);rw[←e3];refine⟨by rw[T.To _ (Nat.le_refl _),S.size],fun t=>?_⟩;by_cases hex:∃(j:Nat) (o:Oper),ops.toList[j]? =some o∧o.dst=some t
  ·obtain⟨j,o,ho,hd⟩:=hex;have hj:j<ops.toList.length:=(List.getElem?_eq_some_iff.1 ho).1;have htn:t<(fs 0).n:=by
    rw[e1];unfold jO at rV;have:=List.all_eq_true.1 rV o (List.mem_of_getElem? ho);rw[hd]at this;simpa using this
   rw[T.Lv X htn ho hd _ (Nat.le_refl _) hj];refine(S.w j o t ho (kr j om) hd).mono ?_;rw[←e4];exact gF aS.le_refl (by
    have h1:=K.mono (i:=j+1) (j:=ops.toList.length) om (Nat.le_refl _);have h2:=K.mono (i:=c) (j:=ops.toList.length) C.cN (Nat.le_refl _);omega)
  ·rw[T.Lu t _ (Nat.le_refl _) fun j o _ ho hd=>hex ⟨j,o,ho,hd⟩,←e4];exact(S.old t fun j o ho _ hd=>hex ⟨j,o,ho,hd⟩).mono hle
 ·simp
 ·intro j o ho hl;rw[Zf]at hl;cases hl
end
def iS (P:Program) (uZ:FuncId→List Value→ab→Option (Value×ab)):Env where
 desc:=fun t=>P.underlying t
 size:=fun t=>(P.info? t).map (·.size)
 bytes:=fun t=>(P.info? t).map (·.bytes)
 zero:=fun t=>(P.info? t).bind fun i=>i.zero.bind fun z=>bC (ff z) (some z)
 rF:=fun t=> !P.eqGuardType P.depth t&& !P.stoodInHeld t
 func:=fun g=>(P.funcs[g]?).bind fun fn=>bC (fn.body.isSome&& !(fn.name== "runtime.NumGoroutine")) (some fn)
 vl:=fun _=>none
 still:=fun _=>false
 uZ:=fun _=>uZ
theorem W5 (P:Program) (uZ:FuncId→List Value→ab→Option (Value×ab)):bw P (iS P uZ):=by
 refine⟨fun t d h=>h,fun t n h=>?_,fun t n h=>?_,fun t z h=>?_,fun t h=>?_,fun f fn h=>?_⟩
 ·simp only[iS,Option.map_eq_some_iff]at h;obtain⟨i,h1,h2⟩:=h;exact⟨i,h1,h2⟩
 ·simp only[iS,Option.map_eq_some_iff]at h;obtain⟨i,h1,h2⟩:=h;exact⟨i,h1,h2⟩
 ·simp only[iS,Option.bind_eq_some_iff,aj,Option.some.injEq]at h;obtain⟨i,h1,z',h2,h3,rfl⟩:=h;exact⟨⟨i,h1,h2⟩,h3⟩
 ·simp only[iS,Bool.and_eq_true,Bool.not_eq_true']at h;exact h
 ·simp only[iS,Option.bind_eq_some_iff,aj,Option.some.injEq,Bool.and_eq_true,Bool.not_eq_true']at h;obtain⟨i,h1,⟨h2,h3⟩,rfl⟩:=h;exact⟨h1,h2,h3⟩
section
variable {P:Program} {E:Env} {base B:Nat}
theorem wv (hE:bw P E) (hO:jy P E base B) (hm:P.follows .mixedOrders=true) (n:Nat):jQ P E base B (fJ E base n):=
 Lo hE hO (codeOk hE hO (Hi hE hm) n).1
def lh:FuncId→List Value→ab→Option (Value×ab):=fun _ _ _=>none
def vR:ab:=⟨.nil,0⟩
def wx:Option (Value×ab)→Bool
 |some (.bool b,_)=>b
 |_=>false
theorem yQ {x:Option (Value×ab)} (h:wx x=true):∃h',x=some (.bool true,h'):=by
 unfold wx at h;split at h
 ·subst h;exact⟨_,rfl⟩
 ·cases h
end
end Go.M
namespace Go.M
open Go Go.ChangeShapes Go.WideShapes Go.ChangeAt Go.RowKit
section
variable {H:Type} {enc:TypeId×Value→H} {P:Program}
theorem qf (hl:laidOutB P=true) {W W':World} {sp:Nat→Bool}:∀{ts:List TypeId} {vs:List Value} {ds:List (DataW H)} {ps:List MemPlace},(∀t∈ts,P.readableRec t=true∧t<P.types.size)→
 DataW.TrodAll enc P W 0 (fun _=>true) true ts vs ds ps→(∀p∈ps,W.sameAt W' p)→(∀p∈ps,sp p.block=true)→DataW.TrodAll enc P W' 0 sp true ts vs ds ps
 |[],[],[],ps,_,h,_,_=>h
 |t::ts,v::vs,d::ds,ps,hr,h,hs,hp=>by
  obtain⟨p,q,h1,h2,rfl⟩:=h;refine⟨p,q,?_,?_,rfl⟩
  ·exact WideElems.Trod_stays hl (hr t List.mem_cons_self).1 (hr t List.mem_cons_self).2 h1 (fun x hx=>hs x (List.mem_append_left _ hx)) (fun x hx=>hp x (List.mem_append_left _ hx))
  ·exact qf hl (fun u hu=>hr u (List.mem_cons_of_mem _ hu)) h2 (fun x hx=>hs x (List.mem_append_right _ hx)) (fun x hx=>hp x (List.mem_append_right _ hx))
 |[],[],_::_,_,_,h,_,_=>by simp[DataW.TrodAll]at h
 |[],_::_,_,_,_,h,_,_=>by simp[DataW.TrodAll]at h
 |_::_,[],_,_,_,h,_,_=>by simp[DataW.TrodAll]at h
 |_::_,_::_,[],_,_,h,_,_=>by simp[DataW.TrodAll]at h
theorem oN {W:World} {base:Nat} {sp:Nat→Bool} {held:Bool}:∀{ts:List TypeId} {vs:List Value} {ds:List (DataW H)} {ps:List MemPlace},DataW.TrodAll enc P W base sp held ts vs ds ps→ds.length=ts.length∧vs.length=ts.length
 |[],[],[],_,_=>⟨rfl,rfl⟩
 |t::ts,v::vs,d::ds,ps,h=>by
  obtain⟨p,q,_,h2,_⟩:=h;have:=oN h2;simp[this.1,this.2]
 |[],[],_::_,_,h=>by simp[DataW.TrodAll]at h
 |[],_::_,_,_,h=>by simp[DataW.TrodAll]at h
 |_::_,[],_,_,h=>by simp[DataW.TrodAll]at h
 |_::_,_::_,[],_,h=>by simp[DataW.TrodAll]at h
theorem I1 {f:Func} {s:ChangeSpec} {apart fresh:Bool} {W W':World} {args:Array Value} {ds gs:List (DataW H)} {before:List MemPlace} {tb:TypeId}
 (hW:DataW.Whole enc P f.params.toList s.vars apart W args.toList ds gs before) (RJ:s.vars=[]) (E7:f.resultTypes= #[tb]) (hb:P.underlying tb=some .bool)
 (hl:laidOutB P=true) (hp:∀t∈f.params.toList,P.readableRec t=true∧t<P.types.size) (hs:s.fn H ds={results:=[.lit (.bool true)],args:=ds}) (Tw:Below W.heap.size W W'):
 s.post enc P f apart fresh false false W args (.bool true) W':=by
 have hW':=hW;have bF:∀p∈before,p.block<W.heap.size:=fun p hp=>hW.lt p hp;have hold:∀p∈before,(fun b=>decide (b<W.heap.size)) p.block=true:=fun p hp=>by simpa using bF p hp
 obtain⟨p,q,hA,hV,rfl,hz,hn⟩:=hW;rw[RJ]at hV;obtain⟨rfl,rfl⟩:=trodVars_none hV;simp only[List.append_nil]at*
 have jV:∀sp:Nat→Bool,(∀x∈p,sp x.block=true)→DataW.TrodAll enc P W' 0 sp true f.params.toList args.toList (s.fn H ds).args p:=fun sp VT=>by
  rw[hs];exact qf hl hp hA (fun x hx=>Tw.same (bF x hx)) VT
 have yC:∀sp:Nat→Bool,DataW.TrodVars enc P W' sp s.vars (s.fn H ds).vars []:=fun sp=>by rw[hs,RJ];rfl
 have hr:∀(b:Nat) (sp:Nat→Bool) (hd:Bool),DataW.TrodAll enc P W' b sp hd f.resultTypes.toList ((Value.bool true).resultList f.resultTypes.size) (s.fn H ds).results []:=fun b sp hd=>by
  rw[hs,E7];exact trodAll_mk1 (shut_bool hb true)
 have LH:=ok_one (W':=W') (v:=.bool true) E7 rfl (okWide_bool_mk hb true);refine⟨ds,[],p,[],p,[],hW',by simpa using hr _ _ _,by simpa using jV _ hold,by simpa using yC _,World.keptBut_mono (fun x hx=>⟨hx,?_⟩) (Tw.frame _),fun _=>?_⟩
 ·exact Or.inr (by simpa using hx)
 ·refine⟨LH,_,_,([]++p)++[],⟨[]++p,[],trodAll_append (by simpa using jV _ (fun _ _=>rfl)) (by simpa using hr _ _ _),by simpa using yC _,rfl,?_,?_⟩,?_⟩
  ·intro b off rA;have KN:MemPlace.cell b off∈p:=by simpa using rA
   have:=bF _ KN;rw[Tw.frozen (p:=⟨b,off,none⟩) this];exact hz b off (by simpa using KN)
  ·intro ha;have:=hn ha;simpa using this
  ·intro x hx _;simpa using hx
def LI (P:Program):List TypeId→List IntKind→Bool
 |[],[]=>true
 |t::ts,k::ks=>(match P.underlying t with|some (.int k')=>decide (k'=k)|_=>false)&&LI P ts ks
 |_,_=>false
def acq (P:Program) (t:TypeId) (ks:List IntKind):Bool:=
 match P.underlying t,P.cellTypes P.depth t with
 |some (.struct _),some ts=>Nat.beq (P.cellsOf t) ts.length&&LI P ts ks
 |_,_=>false
end
end Go.M
