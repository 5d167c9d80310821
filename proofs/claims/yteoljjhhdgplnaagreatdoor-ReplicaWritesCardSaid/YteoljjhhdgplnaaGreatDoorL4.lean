/-
  Part 4 of the library that the proof leans on.
-/
import Derived.Test.YteoljjhhdgplnaaGreatDoorL3
import Derived.Carry
import Derived.OpenShut
import Derived.KernelRfl
import Derived.WalkKit
import Derived.ProofKit
namespace Go.M
open Go
structure Dm (ops:List Oper) (hs:Nat→ah) (lg:Nat→dD):Prop where
 kind:∀j,j<ops.length→(lg j= .pure∧hs (j+1)=hs j)∨(∃q,lg j= .rd q (hs j)∧hs (j+1)=hs j∧q.cX<(hs j).size)∨
  (∃md:Made,lg j= .alloc (hs j) (hs (j+1))∧hs (j+1)=(hs j).push (md.obj (hs j).size))∨(lg j= .cU (hs j) (hs (j+1))∧(hs j).size≤(hs (j+1)).size)
 pass:∀i j,i<j→j<ops.length→aN (cI ops []) i (lg i) j (lg j)=true
def Al (ops:List Oper) (hs:Nat→ah) (lg:Nat→dD) (j:Nat) (md:Made):Prop:=
 j<ops.length∧lg j= .alloc (hs j) (hs (j+1))∧hs (j+1)=(hs j).push (md.obj (hs j).size)
section
variable {E:Env} {base B:Nat} {ops:List Oper} {hs:Nat→ah} {lg:Nat→dD}
theorem Dm.step (X:Dm ops hs lg) {j:Nat} (hj:j<ops.length):(hs j).size≤(hs (j+1)).size:=by
 rcases X.kind j hj with⟨_,h⟩|⟨q,_,h,_⟩|⟨md,_,h⟩|⟨_,h⟩
 ·rw[h];exact Nat.le_refl _
 ·rw[h];exact Nat.le_refl _
 ·rw[h,ah.size_push];omega
 ·exact h
theorem Dm.mono (X:Dm ops hs lg) {i:Nat}:∀{j:Nat},i≤j→j≤ops.length→(hs i).size≤(hs j).size:=by
 intro j
 induction j with
 |zero=>intro h _;rw[Nat.le_zero.1 h];exact Nat.le_refl _
 |succ j ih=>
  intro h hj;by_cases e:i=j+1
  ·subst e;exact Nat.le_refl _
  ·exact Nat.le_trans (ih om om) (X.step om)
theorem Al.size {j:Nat} {md:Made} (h:Al ops hs lg j md):(hs (j+1)).size=(hs j).size+1:=by rw[h.2.2];rfl
theorem Al.inj (X:Dm ops hs lg) {i j:Nat} {md wx:Made} (h:Al ops hs lg i md) (k:Al ops hs lg j wx) (e:(hs i).size=(hs j).size):i=j:=by
 rcases Nat.lt_trichotomy i j with hl|hl|hl
 ·have:=X.mono (i:=i+1) (j:=j) hl (by have:=k.1;omega);rw[h.size]at this;omega
 ·exact hl
 ·have:=X.mono (i:=j+1) (j:=i) hl (by have:=h.1;omega);rw[k.size]at this;omega
theorem rz (md:Made) (b:Nat):∀cs f cu aF,md.obj b= .cells cs f cu aF→f=b∧cu=b:=by
 intro cs f cu aF h;cases md<;>simp[Made.obj]at h;exact⟨h.2.1.symm,h.2.2.1.symm⟩
theorem Dm.chain (X:Dm ops hs lg) {q:RQ} {lo:Nat} (hb:q.cX<(hs lo).size):∀{hi:Nat},lo≤hi→hi≤ops.length→
 (∀i,lo≤i→i<hi→((lg i= .cU (hs i) (hs (i+1)))→eP (hs i) (hs (i+1)) q=true)∧((lg i= .alloc (hs i) (hs (i+1)))→oU (hs i) q=true))→q.run (hs hi)=q.run (hs lo):=by
 intro hi
 induction hi with
 |zero=>intro h _ _;rw[Nat.le_zero.1 h]
 |succ k ih=>
  intro h hk mh;by_cases e:lo=k+1
  ·subst e;rfl
  ·have h1:=ih om om fun i hi1 hi2=>mh i hi1 om;rw[←h1];have hbk:q.cX<(hs k).size:=Nat.lt_of_lt_of_le hb (X.mono om om);rcases X.kind k om with⟨_,h⟩|⟨q',_,h,_⟩|⟨md,h,h'⟩|⟨h,_⟩
   ·rw[h]
   ·rw[h]
   ·rw[h'];exact JP ((mh k om om).2 h) hbk
   ·exact Dl ((mh k om om).1 h) hbk
structure Core (E:Env) (base B:Nat) (ops:List Oper) (hs:Nat→ah) (lg:Nat→dD) (ic:ba) (w0:World) (c:Nat) (L:Nat→Bool) (μ:ba) (w:World):Prop where
 cN:c≤ops.length
 Ba:∀j h h',j<ops.length→lg j= .cU h h'→(L j=true↔j<c)
 rel:aX E base B (cut μ (hs c).size) (hs c) w
 Nb:ic.le μ
 grow:Grow base ic w0 w
 new:∀b m,ic b=none→μ b=some m→(hs 0).size≤b∧base≤b∧(w0.heap.size≤m.r∨∃b0 m0,base≤b0∧ic b0=some m0∧m0.r=m.r)
 ET:∀b,b<(hs 0).size→ic b=none→(hs c).get b=(hs 0).get b
 late:∀j md,j<c→Al ops hs lg j md→L j=false→μ (hs j).size=none∧(hs c).get (hs j).size=some (md.obj (hs j).size)
 cC:∀j md,c≤j→Al ops hs lg j md→L j=true→∃m,μ (hs j).size=some m
 uE:∀b m,(hs c).size≤b→μ b=some m→∃j md o',c≤j∧L j=true∧Al ops hs lg j md∧b=(hs j).size∧w.heap[m.r]? =some o'∧(w0.heap.size≤m.r∧m.s=0)∧
  ∀aK h b',(cut μ (hs j).size).le aK→gP aK h base b' m (md.obj b') o'
 apart:∀b1 b2 m1 m2,(hs c).size≤b1→μ b1=some m1→μ b2=some m2→m1.r=m2.r→b1=b2
def pb (L:Nat→Bool) (k:Nat):Nat→Bool:=fun j=>if j=k then true else L j
theorem nP (L:Nat→Bool) (k:Nat):pb L k k=true:=by simp[pb]
theorem fQ {L:Nat→Bool} {k j:Nat} (h:j≠k):pb L k j=L j:=by simp[pb,h]
theorem lN {L:Nat→Bool} {k j:Nat} (h:L j=true):pb L k j=true:=by unfold pb;split<;>simp[h]
variable {ic:ba} {w0:World} {c:Nat} {L:Nat→Bool} {μ:ba} {w:World}
theorem Core.go (X:Dm ops hs lg) (C:Core E base B ops hs lg ic w0 c L μ w) (hc:c<ops.length) (bc:∀h h',lg c≠ .cU h h') (hB:B≤w0.heap.size) (xf:base≤(hs 0).size):Core E base B ops hs lg ic w0 (c+1) L μ w:=by
 have Vc:∀j h h',j<ops.length→lg j= .cU h h'→(L j=true↔j<c+1):=fun j h h' hj hl=>by
  rw[C.Ba j h h' hj hl];constructor
  ·intro h;omega
  ·intro h1;have:j≠c:=fun e=>by subst e;exact bc _ _ hl
   omega
 have same:hs (c+1)=hs c→(∀md,¬Al ops hs lg c md)→Core E base B ops hs lg ic w0 (c+1) L μ w:=by
  intro e CV;refine⟨hc,Vc,by rw[e];exact C.rel,C.Nb,C.grow,C.new,by rw[e];exact C.ET,?_,?_,?_,by rw[e];exact C.apart⟩
  ·intro j md hj c9 hl;rw[e];have:j≠c:=fun h=>by subst h;exact CV _ c9
   exact C.late j md om c9 hl
  ·intro j md hj;exact C.cC j md om
  ·rw[e];intro b m hb hm;obtain⟨j,md,o',k1,k2,k3,k4⟩:=C.uE b m hb hm;have:j≠c:=fun h=>by subst h;exact CV _ k3
   exact⟨j,md,o',om,k2,k3,k4⟩
 rcases X.kind c hc with⟨h1,h2⟩|⟨q,h1,h2,_⟩|⟨md,h1,h2⟩|⟨h1,_⟩
 ·exact same h2 fun md ha=>by have:=ha.2.1;rw[h1]at this;cases this
 ·exact same h2 fun md ha=>by have:=ha.2.1;rw[h1]at this;cases this
 ·have c9:Al ops hs lg c md:=⟨hc,h1,h2⟩;have eY:=c9.size;have ud:=X.mono (i:=0) (j:=c) (Nat.zero_le _) C.cN;have jm:=rz md (hs c).size;have Hp:aX E base B (cut μ (hs c).size) (hs (c+1)) w:=by rw[h2];exact C.rel.JN fun cs f cu aF e=>(jm cs f cu aF e).1
  have dL:(hs (c+1)).get (hs c).size=some (md.obj (hs c).size):=by rw[h2,ah.ak,if_pos rfl]
  have hold:∀b,b<(hs c).size→(hs (c+1)).get b=(hs c).get b:=fun b hb=>by rw[h2,ah.ak,if_neg om]
  have pK:aX E base B (cut μ (hs (c+1)).size) (hs (c+1)) w:=by
   cases hm:μ (hs c).size with
   |none=>
    have e:cut μ (hs (c+1)).size=cut μ (hs c).size:=by
     funext b
     unfold cut;by_cases e1:b<(hs c).size
     ·rw[if_pos e1,if_pos om]
     ·rw[if_neg e1];split
      ·have:b=(hs c).size:=by omega
       rw[this];exact hm
      ·rfl
    rw[e];exact Hp
   |some m=>
    have e:cut μ (hs (c+1)).size=jk (cut μ (hs c).size) (hs c).size m:=by
     funext b
     unfold cut jk;by_cases e1:b=(hs c).size
     ·subst e1;rw[if_pos om,if_pos rfl,hm]
     ·rw[if_neg e1];show _=if b<(hs c).size then μ b else none
      by_cases e2:b<(hs c).size
      ·rw[if_pos e2,if_pos om]
      ·rw[if_neg e2,if_neg om]
    obtain⟨j,wx,o',k1,k2,k3,k4,k5,k6,k7⟩:=C.uE _ m (Nat.le_refl _) hm;have hjc:j=c:=(Al.inj X c9 k3 k4).symm;subst hjc;have YM:wx.obj (hs j).size=md.obj (hs j).size:=by
     have h3:=k3.2.2;have:(hs (j+1)).get (hs j).size=some (wx.obj (hs j).size):=by rw[h3,ah.ak,if_pos rfl]
     rw[dL]at this;exact(Option.some.inj this).symm
    rw[e];refine Hp.E7 om dL (by unfold cut;rw[if_neg om]) om om k5 ?_ (fun cs f cu aF e=>⟨(jm cs f cu aF e).1,Nat.le_of_eq (jm cs f cu aF e).2.symm⟩) (fun _ _ _=>k6.2) ?_
    ·intro d md2 hd he;have Rr:=db.1 hd;have:=C.apart _ _ _ _ (Nat.le_refl _) hm Rr.2 he.symm;omega
    ·rw[←YM];exact k7 _ _ _ (by
      rw[←e];exact fH μ.le_refl om)
  refine⟨hc,Vc,pK,C.Nb,C.grow,C.new,?_,?_,?_,?_,?_⟩
  ·intro b hb h0;rw[hold b om];exact C.ET b hb h0
  ·intro j wx hj ha hl;by_cases e:j=c
   ·subst e;have YM:wx.obj (hs j).size=md.obj (hs j).size:=by
     have h3:=ha.2.2;have:(hs (j+1)).get (hs j).size=some (wx.obj (hs j).size):=by rw[h3,ah.ak,if_pos rfl]
     rw[dL]at this;exact(Option.some.inj this).symm
    refine⟨?_,by rw[YM];exact dL⟩;cases hm:μ (hs j).size with
    |none=>rfl
    |some m=>
     obtain⟨j',md2,o',k1,k2,k3,k4,_⟩:=C.uE _ m (Nat.le_refl _) hm;have:j'=j:=(Al.inj X c9 k3 k4).symm;subst this;rw[hl]at k2;cases k2
   ·obtain⟨q1,q2⟩:=C.late j wx om ha hl;have YN:(hs j).size<(hs c).size:=by
     have:=X.mono (i:=j+1) (j:=c) om C.cN;rw[ha.size]at this;omega
    exact⟨q1,by rw[hold _ YN];exact q2⟩
  ·intro j wx hj;exact C.cC j wx om
  ·intro b m hb hm;obtain⟨j,wx,o',k1,k2,k3,k4,k5⟩:=C.uE b m om hm;have:j≠c:=fun h=>by subst h;omega
   exact⟨j,wx,o',om,k2,k3,k4,k5⟩
  ·intro b1 b2 m1 m2 oW;exact C.apart b1 b2 m1 m2 om
 ·exact absurd h1 (bc _ _)
theorem Core.Rs (X:Dm ops hs lg) (hB:B≤w0.heap.size) (xf:base≤(hs 0).size):∀(n:Nat) {c:Nat},Core E base B ops hs lg ic w0 c L μ w→c+n≤ops.length→(∀i,c≤i→i<c+n→∀h h',lg i≠ .cU h h')→Core E base B ops hs lg ic w0 (c+n) L μ w
 |0,c,C,_,_=>C
 |n+1,c,C,hn,bc=>by
  have:=Core.Rs X hB xf n (c:=c+1) (C.go X om (bc c (Nat.le_refl _) om) hB xf) om (fun i h1 h2=>bc i om om);rw[show c+(n+1)=c+1+n by omega];exact this
theorem Core.Bb (C:Core E base B ops hs lg ic w0 c L μ w) {k:Nat} (h1:∀h h',lg k≠ .cU h h') (h2:∀h h',lg k≠ .alloc h h'):Core E base B ops hs lg ic w0 c (pb L k) μ w:=by
 have c9:∀{j md},Al ops hs lg j md→j≠k:=fun ha e=>by subst e;exact h2 _ _ ha.2.1
 refine⟨C.cN,?_,C.rel,C.Nb,C.grow,C.new,C.ET,?_,?_,?_,C.apart⟩
 ·intro j h h' hj hl;rw[fQ (fun e=>by subst e;exact h1 _ _ hl)];exact C.Ba j h h' hj hl
 ·intro j md hj ha hl;rw[fQ (c9 ha)]at hl;exact C.late j md hj ha hl
 ·intro j md hj ha hl;rw[fQ (c9 ha)]at hl;exact C.cC j md hj ha hl
 ·intro b m hb hm;obtain⟨j,md,o',k1,k2,k3⟩:=C.uE b m hb hm;exact⟨j,md,o',k1,lN k2,k3⟩
end
section
variable {E:Env} {base B:Nat} {ops:List Oper} {hs:Nat→ah} {lg:Nat→dD}
variable {ic:ba} {w0:World} {c:Nat} {L:Nat→Bool} {μ:ba} {w w':World}
theorem Core.lt (C:Core E base B ops hs lg ic w0 c L μ w) {b:Nat} {m:MT} (hm:μ b=some m):m.r<w.heap.size:=by
 by_cases hb:b<(hs c).size
 ·exact C.rel.lt (db.2 ⟨hb,hm⟩)
 ·obtain⟨j,md,o',_,_,_,_,k5,_⟩:=C.uE b m om hm;exact(Array.getElem?_eq_some_iff.1 k5).1
theorem Core.alloc (X:Dm ops hs lg) (C:Core E base B ops hs lg ic w0 c L μ w) (hB:B≤w0.heap.size) (xf:base≤(hs 0).size) {k:Nat} {md:Made} (ha:Al ops hs lg k md) (hk:L k=false) {o':Obj} (hw:AO w o' w') {n:Nat}
 (GN:∀aK h b',(cut μ (max (hs k).size (hs c).size)).le aK→gP aK h base b' ⟨w.heap.size,0,n⟩ (md.obj b') o'):
 μ.le (jk μ (hs k).size ⟨w.heap.size,0,n⟩)∧Core E base B ops hs lg ic w0 c (pb L k) (jk μ (hs k).size ⟨w.heap.size,0,n⟩) w':=by
 have eY:=ha.size;have ud:=X.mono (i:=0) (j:=k) (Nat.zero_le _) (by have:=ha.1;omega);have xn:∀{j:Nat} {wx:Made},Al ops hs lg j wx→(hs c).size≤(hs j).size→c≤j:=by
  intro j wx hj hle;by_cases h:c≤j
  ·exact h
  ·have:=X.mono (i:=j+1) (j:=c) om C.cN;rw[hj.size]at this;omega
 have Vd:μ (hs k).size=none:=by
  by_cases XE:k<c
  ·exact(C.late k md XE ha hk).1
  ·cases hm:μ (hs k).size with
   |none=>rfl
   |some m=>
    obtain⟨j,wx,o2,k1,k2,k3,k4,_⟩:=C.uE _ m (X.mono om (by have:=ha.1;omega)) hm;have:k=j:=Al.inj X ha k3 k4;subst this;rw[hk]at k2;cases k2
 have hle:μ.le (jk μ (hs k).size ⟨w.heap.size,0,n⟩):=fA Vd;have jJ:∀{d:Nat} {md:MT},jk μ (hs k).size ⟨w.heap.size,0,n⟩ d=some md→(d=(hs k).size∧md=⟨w.heap.size,0,n⟩)∨(d≠(hs k).size∧μ d=some md):=by
  intro d md hd;by_cases e:d=(hs k).size
  ·subst e;rw[bB]at hd;cases hd;exact .inl ⟨rfl,rfl⟩
  ·rw[mM _ _ e]at hd;exact .inr ⟨e,hd⟩
 have hgw:=C.grow.size;have sI:∀r,r<w.heap.size→w'.heap[r]? =w.heap[r]? :=fun r hr=>by rw[hw.get,if_neg om]
 have jm:w'.heap[w.heap.size]? =some o':=by rw[hw.get,if_pos rfl]
 refine⟨hle,C.cN,?_,?_,ba.le_trans C.Nb hle,?_,?_,C.ET,?_,?_,?_,?_⟩
 ·intro j h h' hj hl;rw[fQ (fun e=>by subst e;have:=ha.2.1;rw[hl]at this;cases this)];exact C.Ba j h h' hj hl
 ·by_cases XE:k<c
  ·have xi:(hs k).size<(hs c).size:=by
    have:=X.mono (i:=k+1) (j:=c) om C.cN;omega
   have e:cut (jk μ (hs k).size ⟨w.heap.size,0,n⟩) (hs c).size=jk (cut μ (hs c).size) (hs k).size ⟨w.heap.size,0,n⟩:=by
    funext b
    unfold cut jk;by_cases e1:b=(hs k).size
    ·subst e1;rw[if_pos xi];simp
    ·rw[if_neg e1];rw[if_neg e1]
   obtain⟨q1,q2⟩:=C.late k md XE ha hk;have EW:max (hs k).size (hs c).size=(hs c).size:=Nat.max_eq_right om;rw[e];refine(C.rel.YA hw).E7 xi q2 (by unfold cut;rw[if_pos xi];exact q1) om (by show B≤w.heap.size;omega) jm ?_ (fun cs f cu aF e=>⟨(rz md _ cs f cu aF e).1,Nat.le_of_eq (rz md _ cs f cu aF e).2.symm⟩) (fun _ _ _=>rfl) ?_
   ·intro d md2 hd he;have:=C.lt (db.1 hd).2;simp only at he;omega
   ·refine GN _ _ _ ?_;rw[EW];exact fA (by unfold cut;rw[if_pos xi];exact q1)
  ·have xi:(hs c).size≤(hs k).size:=X.mono om (by have:=ha.1;omega);have e:cut (jk μ (hs k).size ⟨w.heap.size,0,n⟩) (hs c).size=cut μ (hs c).size:=by
    funext b
    unfold cut jk;by_cases e1:b<(hs c).size
    ·rw[if_pos e1,if_pos e1,if_neg om]
    ·rw[if_neg e1,if_neg e1]
   rw[e];exact C.rel.YA hw
 ·refine⟨hw.tape.trans C.grow.tape,hw.os.trans C.grow.os,hw.output.trans C.grow.output,by rw[hw.size];omega,fun r hr hk=>?_⟩;rw[sI r om];exact C.grow.bd r hr hk
 ·intro b m h0 hm;rcases jJ hm with⟨rfl,rfl⟩|⟨_,h2⟩
  ·exact⟨ud,om,.inl hgw⟩
  ·exact C.new b m h0 h2
 ·intro j wx hj P9 hl;have bc:j≠k:=fun e=>by subst e;rw[nP]at hl;cases hl
  rw[fQ bc]at hl;obtain⟨q1,q2⟩:=C.late j wx hj P9 hl;exact⟨by rw[mM _ _ (fun e=>bc (Al.inj X P9 ha e))];exact q1,q2⟩
 ·intro j wx hj P9 hl;by_cases e:j=k
  ·subst e;exact⟨_,bB _ _ _⟩
  ·rw[fQ e]at hl;obtain⟨m,hm⟩:=C.cC j wx hj P9 hl;exact⟨m,hle _ _ hm⟩
 ·intro b m hb hm;rcases jJ hm with⟨rfl,rfl⟩|⟨_,h2⟩
  ·have uk:=xn ha hb;have EW:max (hs k).size (hs c).size=(hs k).size:=Nat.max_eq_left hb;exact⟨k,md,o',uk,nP _ _,ha,rfl,jm,⟨hgw,rfl⟩,fun aK h b' qU=>GN aK h b' (by rw[EW];exact ba.le_trans (fH hle (Nat.le_refl _)) qU)⟩
  ·obtain⟨j,wx,o2,k1,k2,k3,k4,k5,k6,k7⟩:=C.uE b m hb h2;exact⟨j,wx,o2,k1,lN k2,k3,k4,by rw[sI _ (C.lt h2)];exact k5,k6,fun aK h b' qU=>k7 aK h b' (ba.le_trans (fH hle (Nat.le_refl _)) qU)⟩
 ·intro b1 b2 m1 m2 oW h1 h2 he;rcases jJ h1 with⟨rfl,rfl⟩|⟨_,h1⟩<;>rcases jJ h2 with⟨rfl,rfl⟩|⟨_,h2⟩
  ·rfl
  ·have:=C.lt h2;simp only at he;omega
  ·have:=C.lt h1;simp only at he;omega
  ·exact C.apart b1 b2 m1 m2 oW h1 h2 he
theorem Core.cU (X:Dm ops hs lg) (C:Core E base B ops hs lg ic w0 c L μ w) (hc:c<ops.length) (he:lg c= .cU (hs c) (hs (c+1))) {e7:ba} {w1:World} (S:Step E base B (cut μ (hs c).size) (hs c) w e7 (hs (c+1)) w1):
 ∃aK,μ.le aK∧cut aK (hs (c+1)).size=e7∧Core E base B ops hs lg ic w0 (c+1) (pb L c) aK w1:=by
 have bU:=X.step hc;have NI:∀{j md},Al ops hs lg j md→j≠c:=fun ha e=>by subst e;have:=ha.2.1;rw[he]at this;cases this
 -- whoever is made early stands behind
 have Ve:∀b m,(hs c).size≤b→μ b=some m→(hs (c+1)).size≤b:=by
  intro b m hb hm;obtain⟨j,md,o',k1,k2,k3,k4,_⟩:=C.uE b m hb hm;have:=NI k3;rw[k4];exact X.mono om (by have:=k3.1;omega)
 let aK:ba:=fun b=>if b<(hs (c+1)).size then e7 b else μ b
 have bj:∀b,b<(hs (c+1)).size→aK b=e7 b:=fun b hb=>if_pos hb;have xn:∀b,(hs (c+1)).size≤b→aK b=μ b:=fun b hb=>if_neg om;have hle:μ.le aK:=by
  intro b m hm;by_cases hb:b<(hs (c+1)).size
  ·rw[bj b hb];refine S.le b m (db.2 ⟨?_,hm⟩);by_cases h2:b<(hs c).size
   ·exact h2
   ·have:=Ve b m om hm;omega
  ·rw[xn b om];exact hm
 have NJ:cut aK (hs (c+1)).size=e7:=by
  funext b
  unfold cut;by_cases hb:b<(hs (c+1)).size
  ·rw[if_pos hb,bj b hb]
  ·rw[if_neg hb];cases hm:e7 b with
   |none=>rfl
   |some m=>have:=S.rel.fy b m hm;omega
 have sI:∀b m,(hs c).size≤b→μ b=some m→w1.heap[m.r]? =w.heap[m.r]? :=by
  intro b m hb hm;refine S.grow.bd m.r (C.lt hm) fun b2 m2 tj Qa=>?_;have h2:=db.1 tj;have:=C.apart b b2 m m2 hb hm h2.2 Qa.symm;omega
 have jJ:∀{b:Nat} {m:MT},aK b=some m→(μ b=some m)∨(μ b=none∧b<(hs (c+1)).size∧(hs c).size≤b∧base≤b∧(w.heap.size≤m.r∨∃b0 m0,base≤b0∧b0<(hs c).size∧μ b0=some m0∧m0.r=m.r)):=by
  intro b m hm;cases h0:μ b with
  |some m0=>have:=hle b m0 h0;rw[hm]at this;cases this;exact .inl rfl
  |none=>
   by_cases hb:b<(hs (c+1)).size
   ·rw[bj b hb]at hm;have hn:cut μ (hs c).size b=none:=by unfold cut;split<;>first|exact h0|rfl
    obtain⟨q1,q2,q3⟩:=S.new b m hn hm;refine .inr ⟨rfl,hb,q1,q2,?_⟩;rcases q3 with q3|⟨b0,m0,q3,q4,q5⟩
    ·exact .inl q3
    ·have:=db.1 q4;exact .inr ⟨b0,m0,q3,this.1,this.2,q5⟩
   ·rw[xn b om,h0]at hm;cases hm
 refine⟨aK,hle,NJ,hc,?_,by rw[NJ];exact S.rel,ba.le_trans C.Nb hle,?_,?_,?_,?_,?_,?_,?_⟩
 ·intro j h h' hj hl;by_cases e:j=c
  ·subst e;rw[nP];simp
  ·rw[fQ e,C.Ba j h h' hj hl];omega
 ·refine⟨S.grow.tape.trans C.grow.tape,S.grow.os.trans C.grow.os,S.grow.output.trans C.grow.output,Nat.le_trans C.grow.size S.grow.size,fun r hr hk=>?_⟩;rw[S.grow.bd r (Nat.lt_of_lt_of_le hr C.grow.size) ?_,C.grow.bd r hr hk];intro b m hb UC;have hm:=(db.1 hb).2;cases h0:ic b with
  |some m0=>
   have:=C.Nb b m0 h0;rw[hm]at this;cases this;exact hk b m h0 UC
  |none=>
   obtain⟨_,_,h3⟩:=C.new b m h0 hm;rcases h3 with h3|⟨b0,m0,xf,C6,M7⟩
   ·omega
   ·have:=hk b0 m0 C6 (M7.trans UC);omega
 ·intro b m h0 hm;rcases jJ hm with hm|⟨hn,oW,tj,I9,Ue⟩
  ·exact C.new b m h0 hm
  ·have ud:=X.mono (i:=0) (j:=c) (Nat.zero_le _) C.cN;refine⟨om,I9,?_⟩;rcases Ue with Ue|⟨b0,m0,q1,q2,q3,q4⟩
   ·exact .inl (Nat.le_trans C.grow.size Ue)
   ·cases ud:ic b0 with
    |some Yl=>
     have:=C.Nb b0 Yl ud;rw[q3]at this;cases this;exact .inr ⟨b0,m0,q1,ud,q4⟩
    |none=>
     obtain⟨_,_,hx⟩:=C.new b0 m0 ud q3;rcases hx with hx|⟨b1,m1,r1,r2,r3⟩
     ·exact .inl om
     ·exact .inr ⟨b1,m1,r1,r2,r3.trans q4⟩
 ·intro b hb h0;have ud:=X.mono (i:=0) (j:=c) (Nat.zero_le _) C.cN;rw[S.ET b om ?_,C.ET b hb h0];cases hm:cut μ (hs c).size b with
  |none=>rfl
  |some m=>have:=(C.new b m h0 (db.1 hm).2).1;omega
 ·intro j md hj ha hl;have bc:=NI ha;rw[fQ bc]at hl;obtain⟨q1,q2⟩:=C.late j md om ha hl;have YN:(hs j).size<(hs c).size:=by
   have:=X.mono (i:=j+1) (j:=c) om C.cN;rw[ha.size]at this;omega
  have hn:cut μ (hs c).size (hs j).size=none:=by unfold cut;split<;>first|exact q1|rfl
  refine⟨?_,by rw[S.ET _ YN hn];exact q2⟩;rw[bj _ om];cases hm:e7 (hs j).size with
  |none=>rfl
  |some m=>have:=(S.new _ m hn hm).1;omega
 ·intro j md hj ha hl;rw[fQ (NI ha)]at hl;obtain⟨m,hm⟩:=C.cC j md om ha hl;exact⟨m,hle _ _ hm⟩
 ·intro b m hb hm;rw[xn b hb]at hm;obtain⟨j,md,o',k1,k2,k3,k4,k5,k6,k7⟩:=C.uE b m om hm;have:=NI k3;exact⟨j,md,o',om,lN k2,k3,k4,by rw[sI b m om hm];exact k5,k6,fun su h b' qU=>k7 su h b' (ba.le_trans (fH hle (Nat.le_refl _)) qU)⟩
 ·intro b1 b2 m1 m2 oW h1 h2 hr;rw[xn b1 oW]at h1;rcases jJ h2 with h2|⟨hn,_,tj,_,Ue⟩
  ·exact C.apart b1 b2 m1 m2 om h1 h2 hr
  ·have GO:=C.lt h1;rcases Ue with Ue|⟨b0,m0,q1,q2,q3,q4⟩
   ·omega
   ·have:=C.apart b1 b0 m1 m0 om h1 q3 (hr.trans q4.symm);omega
end
section
variable {P:Program} {E:Env} {base B:Nat} {cf:eT} {rf:dW} {ops:List Oper} {fs:Nat→AF} {hs:Nat→ah} {vs:Nat→Value} {lg:Nat→dD}
variable {ic:ba} {w0:World} {a0:Act} {c:Nat} {L:Nat→Bool} {μ aK:ba} {w w':World} {a:Act}
structure kL (ops:List Oper) (fs:Nat→AF) (hs:Nat→ah) (vs:Nat→Value) (ic:ba) (a0:Act) (c:Nat) (L:Nat→Bool) (μ:ba) (a:Act):Prop where
 size:a.tmps.size=(fs 0).n
 XF:a.defers=a0.defers
 w:∀(j:Nat) (o:Oper) (d:Tmp),ops[j]? =some o→L j=true→o.dst=some d→an (cut μ (max (hs (j+1)).size (hs c).size)) (vs j) (a.tmps.getD d undef)
 old:∀d:Tmp,(∀(j:Nat) (o:Oper),ops[j]? =some o→L j=true→o.dst≠some d)→an ic ((fs 0).get d) (a.tmps.getD d undef)
theorem kL.mono (S:kL ops fs hs vs ic a0 c L μ a) (hle:μ.le aK) {c':Nat} (hc:(hs c).size≤(hs c').size):kL ops fs hs vs ic a0 c' L aK a:=
 ⟨S.size,S.XF,fun j o d ho hl hd=>(S.w j o d ho hl hd).mono (fH hle om),S.old⟩
theorem kL.put (X:lM ops) (hd:iM (fs 0).n ops=true) (S:kL ops fs hs vs ic a0 c L μ a) {k:Nat} {o:Oper} (ho:ops[k]? =some o) (hk:L k=false) {v':Value}
 (hv:an (cut μ (max (hs (k+1)).size (hs c).size)) (vs k) v'):kL ops fs hs vs ic a0 c (pb L k) μ (a.put o.dst v'):=by
 have dL:∀t,o.dst≠some t→(a.put o.dst v').tmps.getD t undef=a.tmps.getD t undef:=by
  intro t ht;cases hd:o.dst with
  |none=>rfl
  |some d=>
   rw[hd]at ht;have bc:d≠t:=fun h=>ht (by rw[h]);show(a.tmps.setIfInBounds d v').getD t undef=_;simp only[Array.getD_eq_getD_getElem?,Array.getElem?_setIfInBounds_ne bc]
 refine⟨?_,?_,?_,?_⟩
 ·rw[←S.size];cases o.dst with
  |none=>rfl
  |some d=>exact Array.size_setIfInBounds
 ·rw[←S.XF];cases o.dst<;>rfl
 ·intro j p d hp hl XG;by_cases e:j=k
  ·subst e;rw[ho]at hp;cases hp;have bj:d<a.tmps.size:=by
    rw[S.size];unfold iM at hd;have:=List.all_eq_true.1 hd o (List.mem_of_getElem? ho);rw[XG]at this;simpa using this
   have:(a.put o.dst v').tmps.getD d undef=v':=by
    rw[XG];show(a.tmps.setIfInBounds d v').getD d undef=v';simp[bj]
   rw[this];exact hv
  ·rw[fQ e]at hl;rw[dL d (X.one k j o p d ho hp (fun h=>e h.symm) XG)];exact S.w j p d hp hl XG
 ·intro d Az;rw[dL d (Az k o ho (nP _ _))];exact S.old d fun j p hp hl=>Az j p hp (lN hl)
theorem kL.skip (S:kL ops fs hs vs ic a0 c L μ a) {k:Nat} (hk:∀o,ops[k]? =some o→o.dst=none):kL ops fs hs vs ic a0 c (pb L k) μ a:=by
 refine⟨S.size,S.XF,fun j o d ho hl hd=>?_,fun d Az=>S.old d fun j p hp hl=>Az j p hp (lN hl)⟩;by_cases e:j=k
 ·subst e;rw[hk o ho]at hd;cases hd
 ·rw[fQ e]at hl;exact S.w j o d ho hl hd
theorem kL.look (X:lM ops) (T:Trace E base cf rf ops ops fs hs vs lg) (K:Dm ops hs lg) (p5:iM (fs 0).n ops=true) (qU:ic.le μ) (YO:∀b m,ic b=some m→b<(hs 0).size)
 (S:kL ops fs hs vs ic a0 c L μ a) (hC:pa ops L) {k:Nat} {o:Oper} (ho:ops[k]? =some o) (hk:L k=false) (hr:uC ops L o) {t:Tmp} (ht:t∈looks ops o):
 an (cut μ (max (hs k).size (hs c).size)) ((fs k).get t) (a.tmps.getD t undef):=by
 have Nc:k<ops.length:=(List.getElem?_eq_some_iff.1 ho).1;have ud:=K.mono (i:=0) (j:=k) (Nat.zero_le _) om;have Qb:(∀(j:Nat) (p:Oper),j<k→ops[j]? =some p→p.dst≠some t)→(∀(j:Nat) (p:Oper),ops[j]? =some p→L j=true→p.dst≠some t)→an (cut μ (max (hs k).size (hs c).size)) ((fs k).get t) (a.tmps.getD t undef):=by
  intro h1 h2;rw[T.JK t k om fun j p hj hp=>h1 j p hj hp];exact(S.old t h2).mono (JM qU fun b m hb=>by have:=YO b m hb;omega)
 by_cases hex:∃j p,ops[j]? =some p∧p.dst=some t∧j≠k
 ·obtain⟨j,p,hp,hd,bc⟩:=hex;have Vf:=X.look k j o p t ho hp (fun h=>bc h.symm) hd ht;have Qc:∀(i:Nat) (q:Oper),ops[i]? =some q→q.dst=some t→i=j:=fun i q hq NK=>by
   by_cases e:i=j
   ·exact e
   ·exact absurd NK (X.one i j q p t hq hp e hd)
  rcases Nat.lt_trichotomy j k with bj|he|pG
  ·have hl:=fi X hC bj ho hr (.inr Vf);have YP:t<(fs 0).n:=by
    unfold iM at p5;have:=List.all_eq_true.1 p5 p (List.mem_of_getElem? hp);rw[hd]at this;simpa using this
   rw[T.JL X YP hp hd k om bj];exact(S.w j p t hp hl hd).mono (fH μ.le_refl (by have:=K.mono (i:=j+1) (j:=k) bj om;omega))
  ·exact absurd he bc
  ·have wq:L j=false:=by
    cases hl:L j with
    |false=>rfl
    |true=>
     have:=fi X hC pG hp (hC j p hp hl) (.inl Vf);rw[hk]at this;cases this
   refine Qb (fun i q hi hq NK=>?_) (fun i q hq hl NK=>?_)
   ·have:=Qc i q hq NK;omega
   ·have:=Qc i q hq NK;subst this;rw[wq]at hl;cases hl
 ·refine Qb (fun i q hi hq NK=>hex ⟨i,q,hq,NK,om⟩) (fun i q hq hl NK=>?_);by_cases e:i=k
  ·subst e;rw[hk]at hl;cases hl
  ·exact hex ⟨i,q,hq,NK,e⟩
structure Inv (E:Env) (base B:Nat) (ops:List Oper) (fs:Nat→AF) (hs:Nat→ah) (vs:Nat→Value) (lg:Nat→dD) (ic:ba) (w0:World) (a0:Act) (L:Nat→Bool) (a:Act) (w:World):Prop where
 ex:∃c μ,Core E base B ops hs lg ic w0 c L μ w∧kL ops fs hs vs ic a0 c L μ a
theorem Dn {k:Nat} {o:Oper} (hC:pa ops L) (ho:ops[k]? =some o) (hr:uC ops L o):pa ops (pb L k):=by
 intro j p hp hl e he hb;by_cases Vb:j=k
 ·subst Vb;rw[ho]at hp;cases hp;exact lN (hr e he hb)
 ·rw[fQ Vb]at hl;exact lN (hC j p hp hl e he hb)
theorem NL (hE:bl P E) (wK:iO P E base B cf) (zi:lG P E base B rf) (zj:lH E cf) (zk:ju rf) {F:Fence} (hF:fT F) {n:Nat} {ops:Array Oper}
 (X:lM ops.toList) (T:Trace E base cf rf ops.toList ops.toList fs hs vs lg) (K:Dm ops.toList hs lg) (p5:iM (fs 0).n ops.toList=true) (H0:aX E base B ic (hs 0) w0)
 (I:Inv E base B ops.toList fs hs vs lg ic w0 a0 L a w) (hC:pa ops.toList L) {k:Nat} {o:Oper} (ho:ops[k]? =some o) (hk:L k=false) (hr:uC ops.toList L o)
 {next:Act→World→Prop} {Q:Exit→Act→World→Prop} (hn:∀a' w',Inv E base B ops.toList fs hs vs lg ic w0 a0 (pb L k) a' w'→next a' w'):
 if Region.wanted o (yielded ops a.tmps)=true then o.wpIn F n P a w next Q else(∀f,o.about P w a.eval=some f→F.fn f)∧next (a.put o.dst undef) w:=by
 obtain⟨c,μ,C,S⟩:=I.ex;have GB:ops.toList[k]? =some o:=by simpa using ho
 have Nc:k<ops.toList.length:=(List.getElem?_eq_some_iff.1 GB).1;have hB:B≤w0.heap.size:=H0.low;have xf:base≤(hs 0).size:=H0.lq;have YQ:∀s,(hs 0).size≤s→fB E (cut μ s):=fun s Vg g Rq=>by
  obtain⟨m,q1,q2⟩:=H0.cW g Rq;exact⟨m,db.2 ⟨by have:=H0.fy g m q1;omega,C.Nb _ _ q1⟩,q2⟩
 have h0k:=K.mono (i:=0) (j:=k) (Nat.zero_le _) om
 have hf:cB (cut μ (max (hs k).size (hs c).size)) ((fs k).only (looks ops.toList o)) (xm a (looks ops.toList o)).tmps:=
  JI (by rw[S.size,T.Rp k om]) fun t ht=>S.look X T K p5 C.Nb H0.fy hC GB hk hr ht
 have YR:fB E (cut μ (max (hs k).size (hs c).size)):=YQ _ om;have oD:Region.wanted o (yielded ops a.tmps)=wanted ops.toList o (fs k):=by
  rw[←zp,o8 hf o,A8]
 have XE:(hs k).size≤(hs (k+1)).size:=K.step Nc;rcases T.run k o GB with⟨hw,fC⟩|⟨hw,hv,hh,sJ⟩
 ·rw[oD,if_pos hw];have YS:=noSelect fC;have Rt:=zh fC;have Qd:dR E base cf rf o ((fs k).only (looks ops.toList o)) (hs k)=some ⟨vs k,hs (k+1),lg k⟩:=by rw[Di (GK _ _ _)];exact fC
  have hex:execOp a.eval o=execOp (xm a (looks ops.toList o)).eval o:=GM YS
  -- an operation that turns no memory
  have quiet:∀v',an (cut μ (max (hs k).size (hs c).size)) (vs k) v'→(∀h h',lg k≠ .cU h h')→(∀h h',lg k≠ .alloc h h')→next (a.put o.dst v') w:=by
   intro v' hv h1 h2;exact hn _ _ ⟨c,μ,C.Bb h1 h2,S.put X p5 GB hk (hv.mono (fH μ.le_refl om))⟩
  rcases sE Qd with⟨hp,hh,sJ⟩|⟨q,hq,hv,hh,sJ⟩|⟨md,hd,c9,hv,hh,sJ⟩|sJ
  ·-- plain
   obtain⟨v',q1,q2⟩:=nL hE YR hf hp;refine⟨fun _ _=>hF.fn _,?_⟩;rw[Oper.semAt_eq _ _ _ Rt,hex,q2 w];exact quiet v' q1 (fun h h' e=>by simp only at sJ;rw[sJ]at e;cases e) (fun h h' e=>by simp only at sJ;rw[sJ]at e;cases e)
  ·-- a read
   simp only at hv hh sJ;have hqk:q.cX<(hs k).size:=by
    rcases K.kind k Nc with⟨h1,_⟩|⟨q',h1,_,h3⟩|⟨md,h1,_⟩|⟨h1,_⟩<;>rw[sJ]at h1<;>cases h1
    exact h3
   -- who may come between
   have JQ:∀i,i<ops.toList.length→i≠k→lg i= .alloc (hs i) (hs (i+1))→oU (hs i) q=true:=by
    intro i hi bc Vh;rcases Nat.lt_or_ge i k with h1|h1
    ·have hp:=K.pass i k h1 Nc;rw[Vh,sJ]at hp;exact hp
    ·have hp:=K.pass k i om hi;rw[Vh,sJ]at hp;exact hp
   have mh:∀i,i<ops.toList.length→i≠k→(lg i= .cU (hs i) (hs (i+1))∧(c≤i∧i<k∨k<i∧i<c))→eP (hs i) (hs (i+1)) q=true:=by
    intro i hi bc pO
    ·obtain⟨YT,YU⟩:=pO;have hL:=C.Ba i _ _ hi YT;have hio:=List.getElem?_eq_getElem (l:=ops.toList) (i:=i) hi;rcases YU with⟨h1,h2⟩|⟨h1,h2⟩
     ·have hp:=K.pass i k h2 Nc;rw[YT,sJ]at hp;simp only[aN,Bool.or_eq_true]at hp;rcases hp with hp|hp
      ·have:=hL.1 (fi X hC h2 GB hr (.inl hp));omega
      ·exact hp
     ·have hp:=K.pass k i h1 hi;rw[YT,sJ]at hp;simp only[aN,Bool.or_eq_true]at hp;rcases hp with hp|hp
      ·have YV:=hL.2 h2;have:=fi X hC h1 hio (hC i _ hio YV) (.inl hp);rw[hk]at this;cases this
      ·exact hp
   obtain⟨v',q1,q2⟩:=GI (base:=base) (w:=w) hE hf YR (v:=vs k) hq (fun m hm=>by
    have Vi:=(db.1 hm).2;by_cases UI:q.cX<(hs c).size
    ·refine⟨hs c,?_,?_⟩
     ·rcases Nat.le_total k c with Ru|Ru
      ·rw[K.chain hqk Ru C.cN fun i h1 h2=>⟨fun h3=>?_,fun h3=>?_⟩];·exact hv
       ·have bc:i≠k:=fun e=>by
         subst e;rw[sJ]at h3;cases h3
        exact mh i (by have:=C.cN;omega) bc ⟨h3,.inr ⟨om,h2⟩⟩
       ·have bc:i≠k:=fun e=>by
         subst e;rw[sJ]at h3;cases h3
        exact JQ i (by have:=C.cN;omega) bc h3
      ·rw[←K.chain UI Ru om fun i h1 h2=>⟨fun h3=>?_,fun h3=>?_⟩];·exact hv
       ·exact mh i om om ⟨h3,.inl ⟨h1,h2⟩⟩
       ·exact JQ i om om h3
     ·obtain⟨p,p',k1,k2,k3⟩:=C.rel.obj q.cX m (db.2 ⟨UI,Vi⟩);exact⟨p,p',k1,k2,k3.mono (fH μ.le_refl om) id⟩
    ·obtain⟨j,md,o',k1,k2,k3,k4,k5,k6,k7⟩:=C.uE q.cX m om Vi;have Vb:j<k:=by
      rcases Nat.lt_or_ge j k with h|h
      ·exact h
      ·have:=K.mono h (by have:=k3.1;omega);omega
     have AA:=k3.size;refine⟨hs (j+1),?_,md.obj q.cX,o',?_,k5,?_⟩
     ·rw[←K.chain (lo:=j+1) (hi:=k) om Vb om fun i h1 h2=>⟨fun h3=>?_,fun h3=>?_⟩];·exact hv
      ·exact mh i om om ⟨h3,.inl ⟨om,h2⟩⟩
      ·exact JQ i om om h3
     ·rw[k3.2.2,ah.ak,if_pos k4,←k4]
     ·exact k7 _ _ _ (fH μ.le_refl om))
   refine⟨fun _ _=>hF.fn _,?_⟩;rw[Oper.semAt_eq _ _ _ Rt,hex,q2];exact quiet v' q1 (fun h h' e=>by rw[sJ]at e;cases e) (fun h h' e=>by rw[sJ]at e;cases e)
  ·-- a block is made
   simp only at hv hh sJ;obtain⟨o',k',hvf,A⟩:=lC hE YR hf c9;have ha:Al ops.toList hs lg k md:=⟨Nc,sJ,hh⟩;refine⟨fun _ _=>hF.fn _,?_⟩;rw[Oper.semAt_eq _ _ _ Rt,hex,A.run w];obtain⟨hle,C'⟩:=C.alloc K hB xf ha hk (AO.mk' w o') (n:=k') fun aK h b' qU=>A.obj aK h base b' _ qU;refine hn _ _ ⟨c,_,C',(S.mono hle (Nat.le_refl _)).put X p5 GB hk ?_⟩;rw[hv];refine A.val _ _ _ (db.2 ⟨?_,bB _ _ _⟩);have:=ha.size;omega
  ·-- memory is turned
   have Nd:lg k= .cU (hs k) (hs (k+1)):=sJ;have uk:c≤k:=by
    have:=C.Ba k _ _ Nc Nd;rw[hk]at this;rcases Nat.lt_or_ge k c with h|h
    ·exact absurd (this.2 h) (by simp)
    ·exact h
   have JR:∀i,c≤i→i<k→∀h h',lg i≠ .cU h h':=by
    intro i h1 h2 g g' e;have hL:=C.Ba i _ _ om e;have hp:=K.pass i k h2 Nc;rw[e,Nd]at hp;simp only[aN]at hp;have:=hL.1 (fi X hC h2 GB hr (.inl hp));omega
   have Ck:=C.Rs K hB xf (k - c) om (fun i h1 h2=>JR i h1 om);rw[show c+(k - c)=k by omega]at Ck;have EW:max (hs k).size (hs c).size=(hs k).size:=Nat.max_eq_left (K.mono uk om);rw[EW]at hf;have Sk:kL ops.toList fs hs vs ic a0 k L μ a:=S.mono μ.le_refl (K.mono uk om);refine NH hE wK zi zj zk hF hf Ck.rel Qd hex fun e7 v' w1 q1 q2=>?_;obtain⟨aK,e1,e2,C'⟩:=Ck.cU K Nc Nd q2;refine hn _ _ ⟨k+1,aK,C',(Sk.mono e1 (K.step Nc)).put X p5 GB hk ?_⟩;rw[Nat.max_self,e2];exact q1
 ·rw[oD,if_neg (by rw[hw];simp)];refine⟨fun _ _=>hF.fn _,hn _ _ ⟨c,μ,C.Bb (fun h h' e=>by rw[sJ]at e;cases e) (fun h h' e=>by rw[sJ]at e;cases e),S.put X p5 GB hk ?_⟩⟩;rw[hv];exact .undef _
end
theorem Rv {E:Env} {base:Nat} {cf:eT} {rf:dW} {all ops:List Oper} {fs:Nat→AF} {hs:Nat→ah} {vs:Nat→Value} {lg:Nat→dD} (T:Trace E base cf rf all ops fs hs vs lg) {ru:List dD}
 (hl:∀j,j<ops.length→ru[j]? =some (lg j)) (hp:jR (cI ops []) 0 ru=true):Dm ops hs lg:=by
 obtain⟨k1,k2⟩:=sH hp;refine⟨fun j hj=>?_,fun i j NG hj=>?_⟩
 ·have hg:=k1 j _ (hl j hj);rcases T.run j _ (List.getElem?_eq_getElem hj)with⟨_,hr⟩|⟨_,_,h1,h2⟩
  ·rcases sE hr with⟨_,h1,h2⟩|⟨q,_,_,h1,h2⟩|⟨md,hd,_,_,h1,h2⟩|h2
   ·exact .inl ⟨h2,h1⟩
   ·simp only at h1 h2;rw[h2]at hg;exact .inr (.inl ⟨q,h2,h1,by simpa[kc]using hg⟩)
   ·exact .inr (.inr (.inl ⟨md,h2,h1⟩))
   ·simp only at h2;rw[h2]at hg;exact .inr (.inr (.inr ⟨h2,by simpa[kc]using hg⟩))
  ·exact .inl ⟨h2,h1⟩
 ·have:=k2 i j _ _ NG (hl i om) (hl j hj);simpa using this
def CX (listed:Array Bool):Nat→Bool:=fun j=>listed.getD j false
theorem E9 {listed:Array Bool} {i:Nat} (hi:i<listed.size):CX (listed.setIfInBounds i true)=pb (CX listed) i:=by
 funext j
 unfold CX pb;by_cases e:j=i
 ·subst e;rw[if_pos rfl];simp[hi]
 ·rw[if_neg e];simp only[Array.getD_eq_getD_getElem?,Array.getElem?_setIfInBounds_ne (fun h=>e h.symm)]
theorem mem_ready {ops:Array Oper} {listed:Array Bool} {i:Nat} (hi:i∈Region.ready .any ops listed) (eY:listed.size=ops.size):
 ∃o,ops[i]? =some o∧i<listed.size∧CX listed i=false∧uC ops.toList (CX listed) o:=by
 unfold Region.ready at hi;simp only[List.mem_filter,List.mem_range,Bool.and_eq_true,Bool.not_eq_true']at hi;obtain⟨h1,h2,h3⟩:=hi;have h4:=Array.getElem?_eq_getElem h1;rw[h4]at h3;simp only[Option.map_some,Option.getD_some,Array.all_eq_true_iff_forall_mem,Bool.or_eq_true,Bool.not_eq_true']at h3;refine⟨_,h4,om,?_,fun e he hb=>?_⟩
 ·have bj:i<listed.size:=by omega
  unfold CX;simp only[Array.getD,bj,dif_pos]at h2 ⊢;exact h2
 ·rcases h3 e (by simpa using he)with h5|h5
  ·rw[hb]at h5;cases h5
  ·exact h5
theorem xo {ops:Array Oper} {listed:Array Bool} (X:lM ops.toList) (eY:listed.size=ops.size) (h:Region.ready .any ops listed=[]):∀j,j<ops.size→CX listed j=true:=by
 intro j
 induction j using Nat.strongRecOn with
 |ind j ih=>
  intro hj;cases hl:CX listed j with
  |true=>rfl
  |false=>
   have hm:j∈Region.ready .any ops listed:=by
    unfold Region.ready;simp only[List.mem_filter,List.mem_range,Bool.and_eq_true,Bool.not_eq_true'];have h4:=Array.getElem?_eq_getElem hj;refine⟨hj,?_,?_⟩
    ·have bj:j<listed.size:=by omega
     unfold CX at hl;simp only[Array.getD,bj,dif_pos]at hl ⊢;exact hl
    ·rw[h4];simp only[Option.map_some,Option.getD_some,Array.all_eq_true_iff_forall_mem,Bool.or_eq_true,Bool.not_eq_true'];intro e he;cases hb:Region.binds .any e with
     |false=>exact .inl rfl
     |true=>
      have:=X.Va j _ (by rw[Array.getElem?_toList];exact h4) e (by simpa using he) hb;exact .inr (ih e.on this om)
   rw[h]at hm;cases hm
section
variable {P:Program} {E:Env} {base B:Nat} {cf:eT} {rf:dW} {fs:Nat→AF} {hs:Nat→ah} {vs:Nat→Value} {lg:Nat→dD}
variable {ic:ba} {w0:World} {a0:Act}
theorem JS (hE:bl P E) (wK:iO P E base B cf) (zi:lG P E base B rf) (zj:lH E cf) (zk:ju rf) {F:Fence} (hF:fT F) {n:Nat} {ops:Array Oper}
 (X:lM ops.toList) (T:Trace E base cf rf ops.toList ops.toList fs hs vs lg) (K:Dm ops.toList hs lg) (p5:iM (fs 0).n ops.toList=true) (H0:aX E base B ic (hs 0) w0)
 {Q:Exit→Act→World→Prop} (hQ:∀L a w,(∀j,j<ops.size→L j=true)→Inv E base B ops.toList fs hs vs lg ic w0 a0 L a w→Q .normal a w):
 ∀(fuel:Nat) (listed:Array Bool) (a:Act) (w:World),listed.size=ops.size→listed.toList.count false≤fuel→pa ops.toList (CX listed)→Inv E base B ops.toList fs hs vs lg ic w0 a0 (CX listed) a w→
  wpAnyIn F n P .any ops Q fuel listed a w:=by
 intro fuel
 induction fuel with
 |zero=>
  intro listed a w eY YW hC I;have GP:Region.ready .any ops listed=[]:=by
   apply List.eq_nil_iff_forall_not_mem.2;intro i hi;obtain⟨o,_,h2,h3,_⟩:=mem_ready hi eY;have ux:false∈listed.toList:=by
    unfold CX at h3;simp only[Array.getD,h2,dif_pos]at h3;rw[←h3];exact List.mem_of_getElem? (by rw[Array.getElem?_toList];exact Array.getElem?_eq_getElem h2)
   have:=List.count_pos_iff.2 ux;omega
  exact⟨GP,hQ _ _ _ (xo X eY GP) I⟩
 |succ fuel ih=>
  intro listed a w eY YW hC I;refine⟨fun GP=>hQ _ _ _ (xo X eY GP) I,fun i hi=>?_⟩;obtain⟨o,h1,h2,h3,h4⟩:=mem_ready hi eY;have wo:ops.toList[i]? =some o:=by simpa using h1
  refine wpOpIn_step h1 fun K' hK'=>?_;refine NL hE wK zi zj zk hF X T K p5 H0 I hC h1 h3 h4 fun a' w' I'=>hK' _ _ (ih _ _ _ ?_ ?_ ?_ ?_)
  ·rw[Array.size_setIfInBounds];exact eY
  ·rw[Array.toList_setIfInBounds,List.count_set (by simpa using h2)];have dL:listed.toList[i]'(by simpa using h2)=false:=by
    unfold CX at h3;simp only[Array.getD,h2,dif_pos]at h3;simpa using h3
   have ux:false∈listed.toList:=by rw[←dL];exact List.getElem_mem _
   have wG:=List.count_pos_iff.2 ux;rw[dL];have e1:(if(true==false)=true then 1 else 0)=0:=rfl;have e2:(if(false==false)=true then 1 else 0)=1:=rfl;omega
  ·rw[E9 h2];exact Dn hC wo h4
  ·rw[E9 h2];exact I'
theorem Fe (hE:bl P E) (hm:P.follows .mixedOrders=true):zm P E base B:=by
 intro cf rf wK zi zj zk ops f h f' h' ru bU p5 fC Vj μ a w hf H F n id Q hF hQ;obtain⟨fs,hs,vs,lg,T,e1,e2,e3,e4,e5⟩:=A9 fC;have X:=Ro bU;have K:=Rv T e5 Vj;refine wpIn_region_any hm ?_;have H0:aX E base B μ (hs 0) {w with drawn:=w.drawn+1}:=by rw[e2];exact H.congr rfl
 have XH:∀j,CX (Array.replicate ops.size false) j=false:=by
  intro j;unfold CX;by_cases hj:j<ops.size
  ·simp[hj]
  ·simp[hj]
 have NJ:cut μ (hs 0).size=μ:=by
  funext b
  unfold cut;split
  ·rfl
  ·cases hb:μ b with
   |none=>rfl
   |some m=>have:=H0.fy b m hb;omega
 have I0:Inv E base B ops.toList fs hs vs lg μ {w with drawn:=w.drawn+1} a (CX (Array.replicate ops.size false)) a {w with drawn:=w.drawn+1}:=by
  refine⟨0,μ,⟨Nat.zero_le _,?_,by rw[NJ];exact H0,μ.le_refl,.refl _ _ _,?_,fun _ _ _=>rfl,?_,?_,?_,?_⟩,⟨?_,rfl,?_,?_⟩⟩
  ·intro j h h' _ _;rw[XH];simp
  ·intro b m h0 h1;rw[h0]at h1;cases h1
  ·intro j md hj;omega
  ·intro j md _ _ hl;rw[XH]at hl;cases hl
  ·intro b m hb hm;have:=H0.fy b m hm;omega
  ·intro b1 b2 m1 m2 oW h1;have:=H0.fy b1 m1 h1;omega
  ·rw[e1];exact hf.n.symm
  ·intro j o d _ hl;rw[XH]at hl;cases hl
  ·intro d _;rw[e1];exact hf.get d
 refine JS hE wK zi zj zk hF X T K (by rw[e1];exact p5) H0 (a0:=a) ?_ ops.size _ a _ (by simp) ?_ ?_ I0
 ·intro L a' w' kf I;obtain⟨c,aK,C,S⟩:=I.ex;have hlen:ops.toList.length=ops.size:=by simp
  have Cn:=C.Rs K H0.low H0.lq (ops.toList.length - c) (by have:=C.cN;omega) (fun i h1 h2 g g' hl=>by
   have h3:i<ops.toList.length:=by have:=C.cN;omega
   have:=(C.Ba i _ _ h3 hl).1 (kf i om);omega)
  have hcN:=C.cN;rw[show c+(ops.toList.length - c)=ops.toList.length by omega]at Cn;have hle:μ.le (cut aK (hs ops.toList.length).size):=JM Cn.Nb fun b m hb=>by
   have h1:=H0.fy b m hb;have h2:=K.mono (i:=0) (j:=ops.toList.length) (Nat.zero_le _) (Nat.le_refl _);omega
  have St:Step E base B μ (hs 0) {w with drawn:=w.drawn+1} (cut aK (hs ops.toList.length).size) (hs ops.toList.length) w':=
   ⟨Cn.rel,Cn.grow,hle,fun b m h0 h1=>Cn.new b m h0 (db.1 h1).2,Cn.ET,K.mono (Nat.zero_le _) (Nat.le_refl _)⟩
  rw[e2,e4]at St;refine hQ _ a' w' ?_ S.XF ((Step.drawn H _).trans St);rw[←e3];refine⟨by rw[T.Rp _ (Nat.le_refl _),S.size],fun t=>?_⟩;by_cases hex:∃(j:Nat) (o:Oper),ops.toList[j]? =some o∧o.dst=some t
  ·obtain⟨j,o,ho,hd⟩:=hex;have hj:j<ops.toList.length:=(List.getElem?_eq_some_iff.1 ho).1;have YP:t<(fs 0).n:=by
    rw[e1];unfold iM at p5;have:=List.all_eq_true.1 p5 o (List.mem_of_getElem? ho);rw[hd]at this;simpa using this
   rw[T.JL X YP ho hd _ (Nat.le_refl _) hj];refine(S.w j o t ho (kf j om) hd).mono ?_;rw[←e4];exact fH aK.le_refl (by
    have h1:=K.mono (i:=j+1) (j:=ops.toList.length) om (Nat.le_refl _);have h2:=K.mono (i:=c) (j:=ops.toList.length) C.cN (Nat.le_refl _);omega)
  ·rw[T.JK t _ (Nat.le_refl _) fun j o _ ho hd=>hex ⟨j,o,ho,hd⟩,←e4];exact(S.old t fun j o ho _ hd=>hex ⟨j,o,ho,hd⟩).mono hle
 ·simp
 ·intro j o ho hl;rw[XH]at hl;cases hl
end
def gW (P:Program) (tc:FuncId→List Value→ah→Option (Value×ah)):Env where
 desc:=fun t=>P.underlying t
 size:=fun t=>(P.info? t).map (·.size)
 bytes:=fun t=>(P.info? t).map (·.bytes)
 zero:=fun t=>(P.info? t).bind fun i=>i.zero.bind fun z=>bp (ey z) (some z)
 pI:=fun t=> !P.eqGuardType P.depth t&& !P.stoodInHeld t
 func:=fun g=>(P.funcs[g]?).bind fun fn=>bp (fn.body.isSome&& !(fn.name== "runtime.NumGoroutine")) (some fn)
 tF:=fun _=>none
 still:=fun _=>false
 tc:=fun _=>tc
theorem Vk (P:Program) (tc:FuncId→List Value→ah→Option (Value×ah)):bl P (gW P tc):=by
 refine⟨fun t d h=>h,fun t n h=>?_,fun t n h=>?_,fun t z h=>?_,fun t h=>?_,fun f fn h=>?_⟩
 ·simp only[gW,Option.map_eq_some_iff]at h;obtain⟨i,h1,h2⟩:=h;exact⟨i,h1,h2⟩
 ·simp only[gW,Option.map_eq_some_iff]at h;obtain⟨i,h1,h2⟩:=h;exact⟨i,h1,h2⟩
 ·simp only[gW,Option.bind_eq_some_iff,aj,Option.some.injEq]at h;obtain⟨i,h1,z',h2,h3,rfl⟩:=h;exact⟨⟨i,h1,h2⟩,h3⟩
 ·simp only[gW,Bool.and_eq_true,Bool.not_eq_true']at h;exact h
 ·simp only[gW,Option.bind_eq_some_iff,aj,Option.some.injEq,Bool.and_eq_true,Bool.not_eq_true']at h;obtain⟨i,h1,⟨h2,h3⟩,rfl⟩:=h;exact⟨h1,h2,h3⟩
section
variable {P:Program} {E:Env} {base B:Nat}
theorem uF (hE:bl P E) (hO:iy P E base B) (hm:P.follows .mixedOrders=true) (n:Nat):iO P E base B (e6 E base n):=
 JF hE hO (codeOk hE hO (Fe hE hm) n).1
def jX:FuncId→List Value→ah→Option (Value×ah):=fun _ _ _=>none
def ud:ah:=⟨.nil,0⟩
def uG:Option (Value×ah)→Bool
 |some (.bool b,_)=>b
 |_=>false
theorem wM {x:Option (Value×ah)} (h:uG x=true):∃h',x=some (.bool true,h'):=by
 unfold uG at h;split at h
 ·subst h;exact⟨_,rfl⟩
 ·cases h
end
end Go.M
namespace Go.M
open Go Go.ChangeShapes Go.WideShapes Go.ChangeAt Go.RowKit
section
variable {H:Type} {enc:TypeId×Value→H} {P:Program}
theorem oE (hl:laidOutB P=true) {W W':World} {sp:Nat→Bool}:∀{ts:List TypeId} {vs:List Value} {ds:List (DataW H)} {ps:List MemPlace},(∀t∈ts,P.readableRec t=true∧t<P.types.size)→
 DataW.TrodAll enc P W 0 (fun _=>true) true ts vs ds ps→(∀p∈ps,W.sameAt W' p)→(∀p∈ps,sp p.block=true)→DataW.TrodAll enc P W' 0 sp true ts vs ds ps
 |[],[],[],ps,_,h,_,_=>h
 |t::ts,v::vs,d::ds,ps,hr,h,hs,hp=>by
  obtain⟨p,q,h1,h2,rfl⟩:=h;refine⟨p,q,?_,?_,rfl⟩
  ·exact WideElems.Trod_stays hl (hr t List.mem_cons_self).1 (hr t List.mem_cons_self).2 h1 (fun x hx=>hs x (List.mem_append_left _ hx)) (fun x hx=>hp x (List.mem_append_left _ hx))
  ·exact oE hl (fun u hu=>hr u (List.mem_cons_of_mem _ hu)) h2 (fun x hx=>hs x (List.mem_append_right _ hx)) (fun x hx=>hp x (List.mem_append_right _ hx))
 |[],[],_::_,_,_,h,_,_=>by simp[DataW.TrodAll]at h
 |[],_::_,_,_,_,h,_,_=>by simp[DataW.TrodAll]at h
 |_::_,[],_,_,_,h,_,_=>by simp[DataW.TrodAll]at h
 |_::_,_::_,[],_,_,h,_,_=>by simp[DataW.TrodAll]at h
theorem mU {W:World} {base:Nat} {sp:Nat→Bool} {held:Bool}:∀{ts:List TypeId} {vs:List Value} {ds:List (DataW H)} {ps:List MemPlace},DataW.TrodAll enc P W base sp held ts vs ds ps→ds.length=ts.length∧vs.length=ts.length
 |[],[],[],_,_=>⟨rfl,rfl⟩
 |t::ts,v::vs,d::ds,ps,h=>by
  obtain⟨p,q,_,h2,_⟩:=h;have:=mU h2;simp[this.1,this.2]
 |[],[],_::_,_,h=>by simp[DataW.TrodAll]at h
 |[],_::_,_,_,h=>by simp[DataW.TrodAll]at h
 |_::_,[],_,_,h=>by simp[DataW.TrodAll]at h
 |_::_,_::_,[],_,h=>by simp[DataW.TrodAll]at h
theorem GQ {f:Func} {s:ChangeSpec} {apart fresh:Bool} {W W':World} {args:Array Value} {ds gs:List (DataW H)} {before:List MemPlace} {tb:TypeId}
 (hW:DataW.Whole enc P f.params.toList s.vars apart W args.toList ds gs before) (Qe:s.vars=[]) (De:f.resultTypes= #[tb]) (hb:P.underlying tb=some .bool)
 (hl:laidOutB P=true) (hp:∀t∈f.params.toList,P.readableRec t=true∧t<P.types.size) (hs:s.fn H ds={results:=[.lit (.bool true)],args:=ds}) (Rw:Below W.heap.size W W'):
 s.post enc P f apart fresh false false W args (.bool true) W':=by
 have hW':=hW;have bj:∀p∈before,p.block<W.heap.size:=fun p hp=>hW.lt p hp;have hold:∀p∈before,(fun b=>decide (b<W.heap.size)) p.block=true:=fun p hp=>by simpa using bj p hp
 obtain⟨p,q,hA,hV,rfl,hz,hn⟩:=hW;rw[Qe]at hV;obtain⟨rfl,rfl⟩:=trodVars_none hV;simp only[List.append_nil]at*
 have iT:∀sp:Nat→Bool,(∀x∈p,sp x.block=true)→DataW.TrodAll enc P W' 0 sp true f.params.toList args.toList (s.fn H ds).args p:=fun sp Uf=>by
  rw[hs];exact oE hl hp hA (fun x hx=>Rw.same (bj x hx)) Uf
 have Nf:∀sp:Nat→Bool,DataW.TrodVars enc P W' sp s.vars (s.fn H ds).vars []:=fun sp=>by rw[hs,Qe];rfl
 have hr:∀(b:Nat) (sp:Nat→Bool) (hd:Bool),DataW.TrodAll enc P W' b sp hd f.resultTypes.toList ((Value.bool true).resultList f.resultTypes.size) (s.fn H ds).results []:=fun b sp hd=>by
  rw[hs,De];exact trodAll_mk1 (shut_bool hb true)
 have sK:=ok_one (W':=W') (v:=.bool true) De rfl (okWide_bool_mk hb true);refine⟨ds,[],p,[],p,[],hW',by simpa using hr _ _ _,by simpa using iT _ hold,by simpa using Nf _,World.keptBut_mono (fun x hx=>⟨hx,?_⟩) (Rw.frame _),fun _=>?_⟩
 ·exact Or.inr (by simpa using hx)
 ·refine⟨sK,_,_,([]++p)++[],⟨[]++p,[],trodAll_append (by simpa using iT _ (fun _ _=>rfl)) (by simpa using hr _ _ _),by simpa using Nf _,rfl,?_,?_⟩,?_⟩
  ·intro b off tj;have I9:MemPlace.cell b off∈p:=by simpa using tj
   have:=bj _ I9;rw[Rw.frozen (p:=⟨b,off,none⟩) this];exact hz b off (by simpa using I9)
  ·intro ha;have:=hn ha;simpa using this
  ·intro x hx _;simpa using hx
def JT (P:Program):List TypeId→List IntKind→Bool
 |[],[]=>true
 |t::ts,k::ks=>(match P.underlying t with|some (.int k')=>decide (k'=k)|_=>false)&&JT P ts ks
 |_,_=>false
def aaR (P:Program) (t:TypeId) (ks:List IntKind):Bool:=
 match P.underlying t,P.cellTypes P.depth t with
 |some (.struct _),some ts=>Nat.beq (P.cellsOf t) ts.length&&JT P ts ks
 |_,_=>false
end
end Go.M
