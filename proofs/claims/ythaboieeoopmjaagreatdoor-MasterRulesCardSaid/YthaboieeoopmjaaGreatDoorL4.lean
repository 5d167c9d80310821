/-
  Part 4 of the library that the proof leans on.
-/
import Derived.Test.YthaboieeoopmjaaGreatDoorL3
import Derived.Carry
import Derived.OpenShut
import Derived.KernelRfl
import Derived.WalkKit
import Derived.ProofKit
namespace Go.M
open Go
structure HE (ops:List Oper) (hs:Nat→ae) (lg:Nat→dU):Prop where
 kind:∀j,j<ops.length→(lg j= .pure∧hs (j+1)=hs j)∨(∃q,lg j= .rd q (hs j)∧hs (j+1)=hs j∧q.di<(hs j).size)∨
  (∃md:Made,lg j= .alloc (hs j) (hs (j+1))∧hs (j+1)=(hs j).push (md.obj (hs j).size))∨(lg j= .dr (hs j) (hs (j+1))∧(hs j).size≤(hs (j+1)).size)
 pass:∀i j,i<j→j<ops.length→bc (df ops []) i (lg i) j (lg j)=true
def Al (ops:List Oper) (hs:Nat→ae) (lg:Nat→dU) (j:Nat) (md:Made):Prop:=
 j<ops.length∧lg j= .alloc (hs j) (hs (j+1))∧hs (j+1)=(hs j).push (md.obj (hs j).size)
section
variable {E:Env} {base B:Nat} {ops:List Oper} {hs:Nat→ae} {lg:Nat→dU}
theorem HE.step (X:HE ops hs lg) {j:Nat} (hj:j<ops.length):(hs j).size≤(hs (j+1)).size:=by
 rcases X.kind j hj with⟨_,h⟩|⟨q,_,h,_⟩|⟨md,_,h⟩|⟨_,h⟩
 ·rw[h];exact Nat.le_refl _
 ·rw[h];exact Nat.le_refl _
 ·rw[h,ae.size_push];omega
 ·exact h
theorem HE.mono (X:HE ops hs lg) {i:Nat}:∀{j:Nat},i≤j→j≤ops.length→(hs i).size≤(hs j).size:=by
 intro j
 induction j with
 |zero=>intro h _;rw[Nat.le_zero.1 h];exact Nat.le_refl _
 |succ j ih=>
  intro h hj;by_cases e:i=j+1
  ·subst e;exact Nat.le_refl _
  ·exact Nat.le_trans (ih om om) (X.step om)
theorem Al.size {j:Nat} {md:Made} (h:Al ops hs lg j md):(hs (j+1)).size=(hs j).size+1:=by rw[h.2.2];rfl
theorem Al.inj (X:HE ops hs lg) {i j:Nat} {md zQ:Made} (h:Al ops hs lg i md) (k:Al ops hs lg j zQ) (e:(hs i).size=(hs j).size):i=j:=by
 rcases Nat.lt_trichotomy i j with hl|hl|hl
 ·have:=X.mono (i:=i+1) (j:=j) hl (by have:=k.1;omega);rw[h.size]at this;omega
 ·exact hl
 ·have:=X.mono (i:=j+1) (j:=i) hl (by have:=h.1;omega);rw[k.size]at this;omega
theorem uu (md:Made) (b:Nat):∀cs f c8 ba,md.obj b= .cells cs f c8 ba→f=b∧c8=b:=by
 intro cs f c8 ba h;cases md<;>simp[Made.obj]at h;exact⟨h.2.1.symm,h.2.2.1.symm⟩
theorem HE.chain (X:HE ops hs lg) {q:RQ} {lo:Nat} (hb:q.di<(hs lo).size):∀{hi:Nat},lo≤hi→hi≤ops.length→
 (∀i,lo≤i→i<hi→((lg i= .dr (hs i) (hs (i+1)))→fD (hs i) (hs (i+1)) q=true)∧((lg i= .alloc (hs i) (hs (i+1)))→rA (hs i) q=true))→q.run (hs hi)=q.run (hs lo):=by
 intro hi
 induction hi with
 |zero=>intro h _ _;rw[Nat.le_zero.1 h]
 |succ k ih=>
  intro h hk kR;by_cases e:lo=k+1
  ·subst e;rfl
  ·have h1:=ih om om fun i hi1 hi2=>kR i hi1 om;rw[←h1];have hbk:q.di<(hs k).size:=Nat.lt_of_lt_of_le hb (X.mono om om);rcases X.kind k om with⟨_,h⟩|⟨q',_,h,_⟩|⟨md,h,h'⟩|⟨h,_⟩
   ·rw[h]
   ·rw[h]
   ·rw[h'];exact N3 ((kR k om om).2 h) hbk
   ·exact HD ((kR k om om).1 h) hbk
structure Core (E:Env) (base B:Nat) (ops:List Oper) (hs:Nat→ae) (lg:Nat→dU) (js:bt) (w0:World) (c:Nat) (L:Nat→Bool) (μ:bt) (w:World):Prop where
 cN:c≤ops.length
 Es:∀j h h',j<ops.length→lg j= .dr h h'→(L j=true↔j<c)
 rel:bq E base B (cut μ (hs c).size) (hs c) w
 Rs:js.le μ
 grow:Grow base js w0 w
 new:∀b m,js b=none→μ b=some m→(hs 0).size≤b∧base≤b∧(w0.heap.size≤m.r∨∃b0 m0,base≤b0∧js b0=some m0∧m0.r=m.r)
 Hf:∀b,b<(hs 0).size→js b=none→(hs c).get b=(hs 0).get b
 late:∀j md,j<c→Al ops hs lg j md→L j=false→μ (hs j).size=none∧(hs c).get (hs j).size=some (md.obj (hs j).size)
 Zv:∀j md,c≤j→Al ops hs lg j md→L j=true→∃m,μ (hs j).size=some m
 xE:∀b m,(hs c).size≤b→μ b=some m→∃j md o',c≤j∧L j=true∧Al ops hs lg j md∧b=(hs j).size∧w.heap[m.r]? =some o'∧(w0.heap.size≤m.r∧m.s=0)∧
  ∀a6 h b',(cut μ (hs j).size).le a6→il a6 h base b' m (md.obj b') o'
 apart:∀b1 b2 m1 m2,(hs c).size≤b1→μ b1=some m1→μ b2=some m2→m1.r=m2.r→b1=b2
def rO (L:Nat→Bool) (k:Nat):Nat→Bool:=fun j=>if j=k then true else L j
theorem p9 (L:Nat→Bool) (k:Nat):rO L k k=true:=by simp[rO]
theorem gW {L:Nat→Bool} {k j:Nat} (h:j≠k):rO L k j=L j:=by simp[rO,h]
theorem nQ {L:Nat→Bool} {k j:Nat} (h:L j=true):rO L k j=true:=by unfold rO;split<;>simp[h]
variable {js:bt} {w0:World} {c:Nat} {L:Nat→Bool} {μ:bt} {w:World}
theorem Core.go (X:HE ops hs lg) (C:Core E base B ops hs lg js w0 c L μ w) (hc:c<ops.length) (bD:∀h h',lg c≠ .dr h h') (hB:B≤w0.heap.size) (vh:base≤(hs 0).size):Core E base B ops hs lg js w0 (c+1) L μ w:=by
 have Zw:∀j h h',j<ops.length→lg j= .dr h h'→(L j=true↔j<c+1):=fun j h h' hj hl=>by
  rw[C.Es j h h' hj hl];constructor
  ·intro h;omega
  ·intro h1;have:j≠c:=fun e=>by subst e;exact bD _ _ hl
   omega
 have same:hs (c+1)=hs c→(∀md,¬Al ops hs lg c md)→Core E base B ops hs lg js w0 (c+1) L μ w:=by
  intro e AH;refine⟨hc,Zw,by rw[e];exact C.rel,C.Rs,C.grow,C.new,by rw[e];exact C.Hf,?_,?_,?_,by rw[e];exact C.apart⟩
  ·intro j md hj eF hl;rw[e];have:j≠c:=fun h=>by subst h;exact AH _ eF
   exact C.late j md om eF hl
  ·intro j md hj;exact C.Zv j md om
  ·rw[e];intro b m hb hm;obtain⟨j,md,o',k1,k2,k3,k4⟩:=C.xE b m hb hm;have:j≠c:=fun h=>by subst h;exact AH _ k3
   exact⟨j,md,o',om,k2,k3,k4⟩
 rcases X.kind c hc with⟨h1,h2⟩|⟨q,h1,h2,_⟩|⟨md,h1,h2⟩|⟨h1,_⟩
 ·exact same h2 fun md ha=>by have:=ha.2.1;rw[h1]at this;cases this
 ·exact same h2 fun md ha=>by have:=ha.2.1;rw[h1]at this;cases this
 ·have eF:Al ops hs lg c md:=⟨hc,h1,h2⟩;have fO:=eF.size;have qP:=X.mono (i:=0) (j:=c) (Nat.zero_le _) C.cN;have kJ:=uu md (hs c).size;have Hp:bq E base B (cut μ (hs c).size) (hs (c+1)) w:=by rw[h2];exact C.rel.Er fun cs f c8 ba e=>(kJ cs f c8 ba e).1
  have eV:(hs (c+1)).get (hs c).size=some (md.obj (hs c).size):=by rw[h2,ae.au,if_pos rfl]
  have hold:∀b,b<(hs c).size→(hs (c+1)).get b=(hs c).get b:=fun b hb=>by rw[h2,ae.au,if_neg om]
  have rB:bq E base B (cut μ (hs (c+1)).size) (hs (c+1)) w:=by
   cases hm:μ (hs c).size with
   |none=>
    have e:cut μ (hs (c+1)).size=cut μ (hs c).size:=by
     funext b
     unfold cut;by_cases e1:b<(hs c).size
     ·rw[if_pos e1,if_pos om]
     ·rw[if_neg e1];split
      ·have:b=(hs c).size:=by omega
       rw[this];exact hm
      ·rfl
    rw[e];exact Hp
   |some m=>
    have e:cut μ (hs (c+1)).size=jH (cut μ (hs c).size) (hs c).size m:=by
     funext b
     unfold cut jH;by_cases e1:b=(hs c).size
     ·subst e1;rw[if_pos om,if_pos rfl,hm]
     ·rw[if_neg e1];show _=if b<(hs c).size then μ b else none
      by_cases e2:b<(hs c).size
      ·rw[if_pos e2,if_pos om]
      ·rw[if_neg e2,if_neg om]
    obtain⟨j,zQ,o',k1,k2,k3,k4,k5,k6,k7⟩:=C.xE _ m (Nat.le_refl _) hm;have hjc:j=c:=(Al.inj X eF k3 k4).symm;subst hjc;have hmd:zQ.obj (hs j).size=md.obj (hs j).size:=by
     have h3:=k3.2.2;have:(hs (j+1)).get (hs j).size=some (zQ.obj (hs j).size):=by rw[h3,ae.au,if_pos rfl]
     rw[eV]at this;exact(Option.some.inj this).symm
    rw[e];refine Hp.AK om eV (by unfold cut;rw[if_neg om]) om om k5 ?_ (fun cs f c8 ba e=>⟨(kJ cs f c8 ba e).1,Nat.le_of_eq (kJ cs f c8 ba e).2.symm⟩) (fun _ _ _=>k6.2) ?_
    ·intro d md2 hd he;have VW:=dH.1 hd;have:=C.apart _ _ _ _ (Nat.le_refl _) hm VW.2 he.symm;omega
    ·rw[←hmd];exact k7 _ _ _ (by
      rw[←e];exact gM μ.le_refl om)
  refine⟨hc,Zw,rB,C.Rs,C.grow,C.new,?_,?_,?_,?_,?_⟩
  ·intro b hb h0;rw[hold b om];exact C.Hf b hb h0
  ·intro j zQ hj ha hl;by_cases e:j=c
   ·subst e;have hmd:zQ.obj (hs j).size=md.obj (hs j).size:=by
     have h3:=ha.2.2;have:(hs (j+1)).get (hs j).size=some (zQ.obj (hs j).size):=by rw[h3,ae.au,if_pos rfl]
     rw[eV]at this;exact(Option.some.inj this).symm
    refine⟨?_,by rw[hmd];exact eV⟩;cases hm:μ (hs j).size with
    |none=>rfl
    |some m=>
     obtain⟨j',md2,o',k1,k2,k3,k4,_⟩:=C.xE _ m (Nat.le_refl _) hm;have:j'=j:=(Al.inj X eF k3 k4).symm;subst this;rw[hl]at k2;cases k2
   ·obtain⟨q1,q2⟩:=C.late j zQ om ha hl;have hjs:(hs j).size<(hs c).size:=by
     have:=X.mono (i:=j+1) (j:=c) om C.cN;rw[ha.size]at this;omega
    exact⟨q1,by rw[hold _ hjs];exact q2⟩
  ·intro j zQ hj;exact C.Zv j zQ om
  ·intro b m hb hm;obtain⟨j,zQ,o',k1,k2,k3,k4,k5⟩:=C.xE b m om hm;have:j≠c:=fun h=>by subst h;omega
   exact⟨j,zQ,o',om,k2,k3,k4,k5⟩
  ·intro b1 b2 m1 m2 ny;exact C.apart b1 b2 m1 m2 om
 ·exact absurd h1 (bD _ _)
theorem Core.VX (X:HE ops hs lg) (hB:B≤w0.heap.size) (vh:base≤(hs 0).size):∀(n:Nat) {c:Nat},Core E base B ops hs lg js w0 c L μ w→c+n≤ops.length→(∀i,c≤i→i<c+n→∀h h',lg i≠ .dr h h')→Core E base B ops hs lg js w0 (c+n) L μ w
 |0,c,C,_,_=>C
 |n+1,c,C,hn,bD=>by
  have:=Core.VX X hB vh n (c:=c+1) (C.go X om (bD c (Nat.le_refl _) om) hB vh) om (fun i h1 h2=>bD i om om);rw[show c+(n+1)=c+1+n by omega];exact this
theorem Core.Et (C:Core E base B ops hs lg js w0 c L μ w) {k:Nat} (h1:∀h h',lg k≠ .dr h h') (h2:∀h h',lg k≠ .alloc h h'):Core E base B ops hs lg js w0 c (rO L k) μ w:=by
 have eF:∀{j md},Al ops hs lg j md→j≠k:=fun ha e=>by subst e;exact h2 _ _ ha.2.1
 refine⟨C.cN,?_,C.rel,C.Rs,C.grow,C.new,C.Hf,?_,?_,?_,C.apart⟩
 ·intro j h h' hj hl;rw[gW (fun e=>by subst e;exact h1 _ _ hl)];exact C.Es j h h' hj hl
 ·intro j md hj ha hl;rw[gW (eF ha)]at hl;exact C.late j md hj ha hl
 ·intro j md hj ha hl;rw[gW (eF ha)]at hl;exact C.Zv j md hj ha hl
 ·intro b m hb hm;obtain⟨j,md,o',k1,k2,k3⟩:=C.xE b m hb hm;exact⟨j,md,o',k1,nQ k2,k3⟩
end
section
variable {E:Env} {base B:Nat} {ops:List Oper} {hs:Nat→ae} {lg:Nat→dU}
variable {js:bt} {w0:World} {c:Nat} {L:Nat→Bool} {μ:bt} {w w':World}
theorem Core.lt (C:Core E base B ops hs lg js w0 c L μ w) {b:Nat} {m:MT} (hm:μ b=some m):m.r<w.heap.size:=by
 by_cases hb:b<(hs c).size
 ·exact C.rel.lt (dH.2 ⟨hb,hm⟩)
 ·obtain⟨j,md,o',_,_,_,_,k5,_⟩:=C.xE b m om hm;exact(Array.getElem?_eq_some_iff.1 k5).1
theorem Core.alloc (X:HE ops hs lg) (C:Core E base B ops hs lg js w0 c L μ w) (hB:B≤w0.heap.size) (vh:base≤(hs 0).size) {k:Nat} {md:Made} (ha:Al ops hs lg k md) (hk:L k=false) {o':Obj} (hw:D7 w o' w') {n:Nat}
 (K9:∀a6 h b',(cut μ (max (hs k).size (hs c).size)).le a6→il a6 h base b' ⟨w.heap.size,0,n⟩ (md.obj b') o'):
 μ.le (jH μ (hs k).size ⟨w.heap.size,0,n⟩)∧Core E base B ops hs lg js w0 c (rO L k) (jH μ (hs k).size ⟨w.heap.size,0,n⟩) w':=by
 have fO:=ha.size;have qP:=X.mono (i:=0) (j:=k) (Nat.zero_le _) (by have:=ha.1;omega);have xF:∀{j:Nat} {zQ:Made},Al ops hs lg j zQ→(hs c).size≤(hs j).size→c≤j:=by
  intro j zQ hj hle;by_cases h:c≤j
  ·exact h
  ·have:=X.mono (i:=j+1) (j:=c) om C.cN;rw[hj.size]at this;omega
 have N4:μ (hs k).size=none:=by
  by_cases hkc:k<c
  ·exact(C.late k md hkc ha hk).1
  ·cases hm:μ (hs k).size with
   |none=>rfl
   |some m=>
    obtain⟨j,zQ,o2,k1,k2,k3,k4,_⟩:=C.xE _ m (X.mono om (by have:=ha.1;omega)) hm;have:k=j:=Al.inj X ha k3 k4;subst this;rw[hk]at k2;cases k2
 have hle:μ.le (jH μ (hs k).size ⟨w.heap.size,0,n⟩):=fF N4;have lL:∀{d:Nat} {md:MT},jH μ (hs k).size ⟨w.heap.size,0,n⟩ d=some md→(d=(hs k).size∧md=⟨w.heap.size,0,n⟩)∨(d≠(hs k).size∧μ d=some md):=by
  intro d md hd;by_cases e:d=(hs k).size
  ·subst e;rw[bx]at hd;cases hd;exact .inl ⟨rfl,rfl⟩
  ·rw[mq _ _ e]at hd;exact .inr ⟨e,hd⟩
 have hgw:=C.grow.size;have JB:∀r,r<w.heap.size→w'.heap[r]? =w.heap[r]? :=fun r hr=>by rw[hw.get,if_neg om]
 have kJ:w'.heap[w.heap.size]? =some o':=by rw[hw.get,if_pos rfl]
 refine⟨hle,C.cN,?_,?_,bt.le_trans C.Rs hle,?_,?_,C.Hf,?_,?_,?_,?_⟩
 ·intro j h h' hj hl;rw[gW (fun e=>by subst e;have:=ha.2.1;rw[hl]at this;cases this)];exact C.Es j h h' hj hl
 ·by_cases hkc:k<c
  ·have wJ:(hs k).size<(hs c).size:=by
    have:=X.mono (i:=k+1) (j:=c) om C.cN;omega
   have e:cut (jH μ (hs k).size ⟨w.heap.size,0,n⟩) (hs c).size=jH (cut μ (hs c).size) (hs k).size ⟨w.heap.size,0,n⟩:=by
    funext b
    unfold cut jH;by_cases e1:b=(hs k).size
    ·subst e1;rw[if_pos wJ];simp
    ·rw[if_neg e1];rw[if_neg e1]
   obtain⟨q1,q2⟩:=C.late k md hkc ha hk;have M7:max (hs k).size (hs c).size=(hs c).size:=Nat.max_eq_right om;rw[e];refine(C.rel.alc hw).AK wJ q2 (by unfold cut;rw[if_pos wJ];exact q1) om (by show B≤w.heap.size;omega) kJ ?_ (fun cs f c8 ba e=>⟨(uu md _ cs f c8 ba e).1,Nat.le_of_eq (uu md _ cs f c8 ba e).2.symm⟩) (fun _ _ _=>rfl) ?_
   ·intro d md2 hd he;have:=C.lt (dH.1 hd).2;simp only at he;omega
   ·refine K9 _ _ _ ?_;rw[M7];exact fF (by unfold cut;rw[if_pos wJ];exact q1)
  ·have wJ:(hs c).size≤(hs k).size:=X.mono om (by have:=ha.1;omega);have e:cut (jH μ (hs k).size ⟨w.heap.size,0,n⟩) (hs c).size=cut μ (hs c).size:=by
    funext b
    unfold cut jH;by_cases e1:b<(hs c).size
    ·rw[if_pos e1,if_pos e1,if_neg om]
    ·rw[if_neg e1,if_neg e1]
   rw[e];exact C.rel.alc hw
 ·refine⟨hw.tape.trans C.grow.tape,hw.os.trans C.grow.os,hw.output.trans C.grow.output,by rw[hw.size];omega,fun r hr hk=>?_⟩;rw[JB r om];exact C.grow.bw r hr hk
 ·intro b m h0 hm;rcases lL hm with⟨rfl,rfl⟩|⟨_,h2⟩
  ·exact⟨qP,om,.inl hgw⟩
  ·exact C.new b m h0 h2
 ·intro j zQ hj UK hl;have bD:j≠k:=fun e=>by subst e;rw[p9]at hl;cases hl
  rw[gW bD]at hl;obtain⟨q1,q2⟩:=C.late j zQ hj UK hl;exact⟨by rw[mq _ _ (fun e=>bD (Al.inj X UK ha e))];exact q1,q2⟩
 ·intro j zQ hj UK hl;by_cases e:j=k
  ·subst e;exact⟨_,bx _ _ _⟩
  ·rw[gW e]at hl;obtain⟨m,hm⟩:=C.Zv j zQ hj UK hl;exact⟨m,hle _ _ hm⟩
 ·intro b m hb hm;rcases lL hm with⟨rfl,rfl⟩|⟨_,h2⟩
  ·have rG:=xF ha hb;have M7:max (hs k).size (hs c).size=(hs k).size:=Nat.max_eq_left hb;exact⟨k,md,o',rG,p9 _ _,ha,rfl,kJ,⟨hgw,rfl⟩,fun a6 h b' sz=>K9 a6 h b' (by rw[M7];exact bt.le_trans (gM hle (Nat.le_refl _)) sz)⟩
  ·obtain⟨j,zQ,o2,k1,k2,k3,k4,k5,k6,k7⟩:=C.xE b m hb h2;exact⟨j,zQ,o2,k1,nQ k2,k3,k4,by rw[JB _ (C.lt h2)];exact k5,k6,fun a6 h b' sz=>k7 a6 h b' (bt.le_trans (gM hle (Nat.le_refl _)) sz)⟩
 ·intro b1 b2 m1 m2 ny h1 h2 he;rcases lL h1 with⟨rfl,rfl⟩|⟨_,h1⟩<;>rcases lL h2 with⟨rfl,rfl⟩|⟨_,h2⟩
  ·rfl
  ·have:=C.lt h2;simp only at he;omega
  ·have:=C.lt h1;simp only at he;omega
  ·exact C.apart b1 b2 m1 m2 ny h1 h2 he
theorem Core.dr (X:HE ops hs lg) (C:Core E base B ops hs lg js w0 c L μ w) (hc:c<ops.length) (he:lg c= .dr (hs c) (hs (c+1))) {gd:bt} {w1:World} (S:Step E base B (cut μ (hs c).size) (hs c) w gd (hs (c+1)) w1):
 ∃a6,μ.le a6∧cut a6 (hs (c+1)).size=gd∧Core E base B ops hs lg js w0 (c+1) (rO L c) a6 w1:=by
 have bN:=X.step hc;have Sl:∀{j md},Al ops hs lg j md→j≠c:=fun ha e=>by subst e;have:=ha.2.1;rw[he]at this;cases this
 -- whoever is made early stands behind
 have Zx:∀b m,(hs c).size≤b→μ b=some m→(hs (c+1)).size≤b:=by
  intro b m hb hm;obtain⟨j,md,o',k1,k2,k3,k4,_⟩:=C.xE b m hb hm;have:=Sl k3;rw[k4];exact X.mono om (by have:=k3.1;omega)
 let a6:bt:=fun b=>if b<(hs (c+1)).size then gd b else μ b
 have aU:∀b,b<(hs (c+1)).size→a6 b=gd b:=fun b hb=>if_pos hb;have xF:∀b,(hs (c+1)).size≤b→a6 b=μ b:=fun b hb=>if_neg om;have hle:μ.le a6:=by
  intro b m hm;by_cases hb:b<(hs (c+1)).size
  ·rw[aU b hb];refine S.le b m (dH.2 ⟨?_,hm⟩);by_cases h2:b<(hs c).size
   ·exact h2
   ·have:=Zx b m om hm;omega
  ·rw[xF b om];exact hm
 have Sp:cut a6 (hs (c+1)).size=gd:=by
  funext b
  unfold cut;by_cases hb:b<(hs (c+1)).size
  ·rw[if_pos hb,aU b hb]
  ·rw[if_neg hb];cases hm:gd b with
   |none=>rfl
   |some m=>have:=S.rel.gh b m hm;omega
 have JB:∀b m,(hs c).size≤b→μ b=some m→w1.heap[m.r]? =w.heap[m.r]? :=by
  intro b m hb hm;refine S.grow.bw m.r (C.lt hm) fun b2 m2 oY Nf=>?_;have h2:=dH.1 oY;have:=C.apart b b2 m m2 hb hm h2.2 Nf.symm;omega
 have lL:∀{b:Nat} {m:MT},a6 b=some m→(μ b=some m)∨(μ b=none∧b<(hs (c+1)).size∧(hs c).size≤b∧base≤b∧(w.heap.size≤m.r∨∃b0 m0,base≤b0∧b0<(hs c).size∧μ b0=some m0∧m0.r=m.r)):=by
  intro b m hm;cases h0:μ b with
  |some m0=>have:=hle b m0 h0;rw[hm]at this;cases this;exact .inl rfl
  |none=>
   by_cases hb:b<(hs (c+1)).size
   ·rw[aU b hb]at hm;have hn:cut μ (hs c).size b=none:=by unfold cut;split<;>first|exact h0|rfl
    obtain⟨q1,q2,q3⟩:=S.new b m hn hm;refine .inr ⟨rfl,hb,q1,q2,?_⟩;rcases q3 with q3|⟨b0,m0,q3,q4,q5⟩
    ·exact .inl q3
    ·have:=dH.1 q4;exact .inr ⟨b0,m0,q3,this.1,this.2,q5⟩
   ·rw[xF b om,h0]at hm;cases hm
 refine⟨a6,hle,Sp,hc,?_,by rw[Sp];exact S.rel,bt.le_trans C.Rs hle,?_,?_,?_,?_,?_,?_,?_⟩
 ·intro j h h' hj hl;by_cases e:j=c
  ·subst e;rw[p9];simp
  ·rw[gW e,C.Es j h h' hj hl];omega
 ·refine⟨S.grow.tape.trans C.grow.tape,S.grow.os.trans C.grow.os,S.grow.output.trans C.grow.output,Nat.le_trans C.grow.size S.grow.size,fun r hr hk=>?_⟩;rw[S.grow.bw r (Nat.lt_of_lt_of_le hr C.grow.size) ?_,C.grow.bw r hr hk];intro b m hb YX;have hm:=(dH.1 hb).2;cases h0:js b with
  |some m0=>
   have:=C.Rs b m0 h0;rw[hm]at this;cases this;exact hk b m h0 YX
  |none=>
   obtain⟨_,_,h3⟩:=C.new b m h0 hm;rcases h3 with h3|⟨b0,m0,vh,Hg,zY⟩
   ·omega
   ·have:=hk b0 m0 Hg (zY.trans YX);omega
 ·intro b m h0 hm;rcases lL hm with hm|⟨hn,ny,oY,Nc,YB⟩
  ·exact C.new b m h0 hm
  ·have qP:=X.mono (i:=0) (j:=c) (Nat.zero_le _) C.cN;refine⟨om,Nc,?_⟩;rcases YB with YB|⟨b0,m0,q1,q2,q3,q4⟩
   ·exact .inl (Nat.le_trans C.grow.size YB)
   ·cases qP:js b0 with
    |some m00=>
     have:=C.Rs b0 m00 qP;rw[q3]at this;cases this;exact .inr ⟨b0,m0,q1,qP,q4⟩
    |none=>
     obtain⟨_,_,hx⟩:=C.new b0 m0 qP q3;rcases hx with hx|⟨b1,m1,r1,r2,r3⟩
     ·exact .inl om
     ·exact .inr ⟨b1,m1,r1,r2,r3.trans q4⟩
 ·intro b hb h0;have qP:=X.mono (i:=0) (j:=c) (Nat.zero_le _) C.cN;rw[S.Hf b om ?_,C.Hf b hb h0];cases hm:cut μ (hs c).size b with
  |none=>rfl
  |some m=>have:=(C.new b m h0 (dH.1 hm).2).1;omega
 ·intro j md hj ha hl;have bD:=Sl ha;rw[gW bD]at hl;obtain⟨q1,q2⟩:=C.late j md om ha hl;have hjs:(hs j).size<(hs c).size:=by
   have:=X.mono (i:=j+1) (j:=c) om C.cN;rw[ha.size]at this;omega
  have hn:cut μ (hs c).size (hs j).size=none:=by unfold cut;split<;>first|exact q1|rfl
  refine⟨?_,by rw[S.Hf _ hjs hn];exact q2⟩;rw[aU _ om];cases hm:gd (hs j).size with
  |none=>rfl
  |some m=>have:=(S.new _ m hn hm).1;omega
 ·intro j md hj ha hl;rw[gW (Sl ha)]at hl;obtain⟨m,hm⟩:=C.Zv j md om ha hl;exact⟨m,hle _ _ hm⟩
 ·intro b m hb hm;rw[xF b hb]at hm;obtain⟨j,md,o',k1,k2,k3,k4,k5,k6,k7⟩:=C.xE b m om hm;have:=Sl k3;exact⟨j,md,o',om,nQ k2,k3,k4,by rw[JB b m om hm];exact k5,k6,fun vg h b' sz=>k7 vg h b' (bt.le_trans (gM hle (Nat.le_refl _)) sz)⟩
 ·intro b1 b2 m1 m2 ny h1 h2 hr;rw[xF b1 ny]at h1;rcases lL h2 with h2|⟨hn,_,oY,_,YB⟩
  ·exact C.apart b1 b2 m1 m2 om h1 h2 hr
  ·have Sr:=C.lt h1;rcases YB with YB|⟨b0,m0,q1,q2,q3,q4⟩
   ·omega
   ·have:=C.apart b1 b0 m1 m0 om h1 q3 (hr.trans q4.symm);omega
end
section
variable {P:Program} {E:Env} {base B:Nat} {cf:eR} {rf:dP} {ops:List Oper} {fs:Nat→AF} {hs:Nat→ae} {vs:Nat→Value} {lg:Nat→dU}
variable {js:bt} {w0:World} {a0:Act} {c:Nat} {L:Nat→Bool} {μ a6:bt} {w w':World} {a:Act}
structure mW (ops:List Oper) (fs:Nat→AF) (hs:Nat→ae) (vs:Nat→Value) (js:bt) (a0:Act) (c:Nat) (L:Nat→Bool) (μ:bt) (a:Act):Prop where
 size:a.tmps.size=(fs 0).n
 dfs:a.defers=a0.defers
 w:∀(j:Nat) (o:Oper) (d:Tmp),ops[j]? =some o→L j=true→o.dst=some d→ar (cut μ (max (hs (j+1)).size (hs c).size)) (vs j) (a.tmps.getD d undef)
 old:∀d:Tmp,(∀(j:Nat) (o:Oper),ops[j]? =some o→L j=true→o.dst≠some d)→ar js ((fs 0).get d) (a.tmps.getD d undef)
theorem mW.mono (S:mW ops fs hs vs js a0 c L μ a) (hle:μ.le a6) {c':Nat} (hc:(hs c).size≤(hs c').size):mW ops fs hs vs js a0 c' L a6 a:=
 ⟨S.size,S.dfs,fun j o d ho hl hd=>(S.w j o d ho hl hd).mono (gM hle om),S.old⟩
theorem mW.put (X:nP ops) (hd:jV (fs 0).n ops=true) (S:mW ops fs hs vs js a0 c L μ a) {k:Nat} {o:Oper} (ho:ops[k]? =some o) (hk:L k=false) {v':Value}
 (hv:ar (cut μ (max (hs (k+1)).size (hs c).size)) (vs k) v'):mW ops fs hs vs js a0 c (rO L k) μ (a.put o.dst v'):=by
 have eV:∀t,o.dst≠some t→(a.put o.dst v').tmps.getD t undef=a.tmps.getD t undef:=by
  intro t ht;cases hd:o.dst with
  |none=>rfl
  |some d=>
   rw[hd]at ht;have bD:d≠t:=fun h=>ht (by rw[h]);show(a.tmps.setIfInBounds d v').getD t undef=_;simp only[Array.getD_eq_getD_getElem?,Array.getElem?_setIfInBounds_ne bD]
 refine⟨?_,?_,?_,?_⟩
 ·rw[←S.size];cases o.dst with
  |none=>rfl
  |some d=>exact Array.size_setIfInBounds
 ·rw[←S.dfs];cases o.dst<;>rfl
 ·intro j p d hp hl hdj;by_cases e:j=k
  ·subst e;rw[ho]at hp;cases hp;have aU:d<a.tmps.size:=by
    rw[S.size];unfold jV at hd;have:=List.all_eq_true.1 hd o (List.mem_of_getElem? ho);rw[hdj]at this;simpa using this
   have:(a.put o.dst v').tmps.getD d undef=v':=by
    rw[hdj];show(a.tmps.setIfInBounds d v').getD d undef=v';simp[aU]
   rw[this];exact hv
  ·rw[gW e]at hl;rw[eV d (X.one k j o p d ho hp (fun h=>e h.symm) hdj)];exact S.w j p d hp hl hdj
 ·intro d vx;rw[eV d (vx k o ho (p9 _ _))];exact S.old d fun j p hp hl=>vx j p hp (nQ hl)
theorem mW.skip (S:mW ops fs hs vs js a0 c L μ a) {k:Nat} (hk:∀o,ops[k]? =some o→o.dst=none):mW ops fs hs vs js a0 c (rO L k) μ a:=by
 refine⟨S.size,S.dfs,fun j o d ho hl hd=>?_,fun d vx=>S.old d fun j p hp hl=>vx j p hp (nQ hl)⟩;by_cases e:j=k
 ·subst e;rw[hk o ho]at hd;cases hd
 ·rw[gW e]at hl;exact S.w j o d ho hl hd
theorem mW.look (X:nP ops) (T:Trace E base cf rf ops ops fs hs vs lg) (K:HE ops hs lg) (sO:jV (fs 0).n ops=true) (sz:js.le μ) (acN:∀b m,js b=some m→b<(hs 0).size)
 (S:mW ops fs hs vs js a0 c L μ a) (hC:rN ops L) {k:Nat} {o:Oper} (ho:ops[k]? =some o) (hk:L k=false) (hr:xD ops L o) {t:Tmp} (ht:t∈looks ops o):
 ar (cut μ (max (hs k).size (hs c).size)) ((fs k).get t) (a.tmps.getD t undef):=by
 have Rt:k<ops.length:=(List.getElem?_eq_some_iff.1 ho).1;have qP:=K.mono (i:=0) (j:=k) (Nat.zero_le _) om;have UM:(∀(j:Nat) (p:Oper),j<k→ops[j]? =some p→p.dst≠some t)→(∀(j:Nat) (p:Oper),ops[j]? =some p→L j=true→p.dst≠some t)→ar (cut μ (max (hs k).size (hs c).size)) ((fs k).get t) (a.tmps.getD t undef):=by
  intro h1 h2;rw[T.NY t k om fun j p hj hp=>h1 j p hj hp];exact(S.old t h2).mono (N0 sz fun b m hb=>by have:=acN b m hb;omega)
 by_cases hex:∃j p,ops[j]? =some p∧p.dst=some t∧j≠k
 ·obtain⟨j,p,hp,hd,bD⟩:=hex;have Zy:=X.look k j o p t ho hp (fun h=>bD h.symm) hd ht;have UN:∀(i:Nat) (q:Oper),ops[i]? =some q→q.dst=some t→i=j:=fun i q hq Su=>by
   by_cases e:i=j
   ·exact e
   ·exact absurd Su (X.one i j q p t hq hp e hd)
  rcases Nat.lt_trichotomy j k with aU|he|hgt
  ·have hl:=fS X hC aU ho hr (.inr Zy);have YC:t<(fs 0).n:=by
    unfold jV at sO;have:=List.all_eq_true.1 sO p (List.mem_of_getElem? hp);rw[hd]at this;simpa using this
   rw[T.NZ X YC hp hd k om aU];exact(S.w j p t hp hl hd).mono (gM μ.le_refl (by have:=K.mono (i:=j+1) (j:=k) aU om;omega))
  ·exact absurd he bD
  ·have zP:L j=false:=by
    cases hl:L j with
    |false=>rfl
    |true=>
     have:=fS X hC hgt hp (hC j p hp hl) (.inl Zy);rw[hk]at this;cases this
   refine UM (fun i q hi hq Su=>?_) (fun i q hq hl Su=>?_)
   ·have:=UN i q hq Su;omega
   ·have:=UN i q hq Su;subst this;rw[zP]at hl;cases hl
 ·refine UM (fun i q hi hq Su=>hex ⟨i,q,hq,Su,om⟩) (fun i q hq hl Su=>?_);by_cases e:i=k
  ·subst e;rw[hk]at hl;cases hl
  ·exact hex ⟨i,q,hq,Su,e⟩
structure Inv (E:Env) (base B:Nat) (ops:List Oper) (fs:Nat→AF) (hs:Nat→ae) (vs:Nat→Value) (lg:Nat→dU) (js:bt) (w0:World) (a0:Act) (L:Nat→Bool) (a:Act) (w:World):Prop where
 ex:∃c μ,Core E base B ops hs lg js w0 c L μ w∧mW ops fs hs vs js a0 c L μ a
theorem HF {k:Nat} {o:Oper} (hC:rN ops L) (ho:ops[k]? =some o) (hr:xD ops L o):rN ops (rO L k):=by
 intro j p hp hl e he hb;by_cases Zt:j=k
 ·subst Zt;rw[ho]at hp;cases hp;exact nQ (hr e he hb)
 ·rw[gW Zt]at hl;exact nQ (hC j p hp hl e he hb)
theorem Sv (hE:bB P E) (sm:jX P E base B cf) (Cs:nJ P E base B rf) (Ct:nK E cf) (Cu:kQ rf) {F:Fence} (hF:gE F) {n:Nat} {ops:Array Oper}
 (X:nP ops.toList) (T:Trace E base cf rf ops.toList ops.toList fs hs vs lg) (K:HE ops.toList hs lg) (sO:jV (fs 0).n ops.toList=true) (H0:bq E base B js (hs 0) w0)
 (I:Inv E base B ops.toList fs hs vs lg js w0 a0 L a w) (hC:rN ops.toList L) {k:Nat} {o:Oper} (ho:ops[k]? =some o) (hk:L k=false) (hr:xD ops.toList L o)
 {next:Act→World→Prop} {Q:Exit→Act→World→Prop} (hn:∀a' w',Inv E base B ops.toList fs hs vs lg js w0 a0 (rO L k) a' w'→next a' w'):
 if Region.wanted o (yielded ops a.tmps)=true then o.wpIn F n P a w next Q else(∀f,o.about P w a.eval=some f→F.fn f)∧next (a.put o.dst undef) w:=by
 obtain⟨c,μ,C,S⟩:=I.ex;have KR:ops.toList[k]? =some o:=by simpa using ho
 have Rt:k<ops.toList.length:=(List.getElem?_eq_some_iff.1 KR).1;have hB:B≤w0.heap.size:=H0.low;have vh:base≤(hs 0).size:=H0.lK;have Zz:∀s,(hs 0).size≤s→gD E (cut μ s):=fun s jL g Zu=>by
  obtain⟨m,q1,q2⟩:=H0.de g Zu;exact⟨m,dH.2 ⟨by have:=H0.gh g m q1;omega,C.Rs _ _ q1⟩,q2⟩
 have h0k:=K.mono (i:=0) (j:=k) (Nat.zero_le _) om
 have hf:c9 (cut μ (max (hs k).size (hs c).size)) ((fs k).only (looks ops.toList o)) (AJ a (looks ops.toList o)).tmps:=
  NV (by rw[S.size,T.VV k om]) fun t ht=>S.look X T K sO C.Rs H0.gh hC KR hk hr ht
 have hgk:gD E (cut μ (max (hs k).size (hs c).size)):=Zz _ om;have qS:Region.wanted o (yielded ops a.tmps)=wanted ops.toList o (fs k):=by
  rw[←CA,rL hf o,Eo]
 have hkc:(hs k).size≤(hs (k+1)).size:=K.step Rt;rcases T.run k o KR with⟨hw,gY⟩|⟨hw,hv,hh,vy⟩
 ·rw[qS,if_pos hw];have acP:=noSelect gY;have VY:=Cr gY;have UO:dW E base cf rf o ((fs k).only (looks ops.toList o)) (hs k)=some ⟨vs k,hs (k+1),lg k⟩:=by rw[HA (K6 _ _ _)];exact gY
  have hex:execOp a.eval o=execOp (AJ a (looks ops.toList o)).eval o:=K8 acP
  -- an operation that turns no memory
  have quiet:∀v',ar (cut μ (max (hs k).size (hs c).size)) (vs k) v'→(∀h h',lg k≠ .dr h h')→(∀h h',lg k≠ .alloc h h')→next (a.put o.dst v') w:=by
   intro v' hv h1 h2;exact hn _ _ ⟨c,μ,C.Et h1 h2,S.put X sO KR hk (hv.mono (gM μ.le_refl om))⟩
  rcases vq UO with⟨hp,hh,vy⟩|⟨q,hq,hv,hh,vy⟩|⟨md,hd,eF,hv,hh,vy⟩|vy
  ·-- plain
   obtain⟨v',q1,q2⟩:=p7 hE hgk hf hp;refine⟨fun _ _=>hF.fn _,?_⟩;rw[Oper.semAt_eq _ _ _ VY,hex,q2 w];exact quiet v' q1 (fun h h' e=>by simp only at vy;rw[vy]at e;cases e) (fun h h' e=>by simp only at vy;rw[vy]at e;cases e)
  ·-- a read
   simp only at hv hh vy;have hqk:q.di<(hs k).size:=by
    rcases K.kind k Rt with⟨h1,_⟩|⟨q',h1,_,h3⟩|⟨md,h1,_⟩|⟨h1,_⟩<;>rw[vy]at h1<;>cases h1
    exact h3
   -- who may come between
   have N5:∀i,i<ops.toList.length→i≠k→lg i= .alloc (hs i) (hs (i+1))→rA (hs i) q=true:=by
    intro i hi bD ZA;rcases Nat.lt_or_ge i k with h1|h1
    ·have hp:=K.pass i k h1 Rt;rw[ZA,vy]at hp;exact hp
    ·have hp:=K.pass k i om hi;rw[ZA,vy]at hp;exact hp
   have kR:∀i,i<ops.toList.length→i≠k→(lg i= .dr (hs i) (hs (i+1))∧(c≤i∧i<k∨k<i∧i<c))→fD (hs i) (hs (i+1)) q=true:=by
    intro i hi bD sD
    ·obtain⟨hie,acR⟩:=sD;have hL:=C.Es i _ _ hi hie;have hio:=List.getElem?_eq_getElem (l:=ops.toList) (i:=i) hi;rcases acR with⟨h1,h2⟩|⟨h1,h2⟩
     ·have hp:=K.pass i k h2 Rt;rw[hie,vy]at hp;simp only[bc,Bool.or_eq_true]at hp;rcases hp with hp|hp
      ·have:=hL.1 (fS X hC h2 KR hr (.inl hp));omega
      ·exact hp
     ·have hp:=K.pass k i h1 hi;rw[hie,vy]at hp;simp only[bc,Bool.or_eq_true]at hp;rcases hp with hp|hp
      ·have hli:=hL.2 h2;have:=fS X hC h1 hio (hC i _ hio hli) (.inl hp);rw[hk]at this;cases this
      ·exact hp
   obtain⟨v',q1,q2⟩:=K4 (base:=base) (w:=w) hE hf hgk (v:=vs k) hq (fun m hm=>by
    have ZB:=(dH.1 hm).2;by_cases Y2:q.di<(hs c).size
    ·refine⟨hs c,?_,?_⟩
     ·rcases Nat.le_total k c with VZ|VZ
      ·rw[K.chain hqk VZ C.cN fun i h1 h2=>⟨fun h3=>?_,fun h3=>?_⟩];·exact hv
       ·have bD:i≠k:=fun e=>by
         subst e;rw[vy]at h3;cases h3
        exact kR i (by have:=C.cN;omega) bD ⟨h3,.inr ⟨om,h2⟩⟩
       ·have bD:i≠k:=fun e=>by
         subst e;rw[vy]at h3;cases h3
        exact N5 i (by have:=C.cN;omega) bD h3
      ·rw[←K.chain Y2 VZ om fun i h1 h2=>⟨fun h3=>?_,fun h3=>?_⟩];·exact hv
       ·exact kR i om om ⟨h3,.inl ⟨h1,h2⟩⟩
       ·exact N5 i om om h3
     ·obtain⟨p,p',k1,k2,k3⟩:=C.rel.obj q.di m (dH.2 ⟨Y2,ZB⟩);exact⟨p,p',k1,k2,k3.mono (gM μ.le_refl om) id⟩
    ·obtain⟨j,md,o',k1,k2,k3,k4,k5,k6,k7⟩:=C.xE q.di m om ZB;have Zt:j<k:=by
      rcases Nat.lt_or_ge j k with h|h
      ·exact h
      ·have:=K.mono h (by have:=k3.1;omega);omega
     have qa:=k3.size;refine⟨hs (j+1),?_,md.obj q.di,o',?_,k5,?_⟩
     ·rw[←K.chain (lo:=j+1) (hi:=k) om Zt om fun i h1 h2=>⟨fun h3=>?_,fun h3=>?_⟩];·exact hv
      ·exact kR i om om ⟨h3,.inl ⟨om,h2⟩⟩
      ·exact N5 i om om h3
     ·rw[k3.2.2,ae.au,if_pos k4,←k4]
     ·exact k7 _ _ _ (gM μ.le_refl om))
   refine⟨fun _ _=>hF.fn _,?_⟩;rw[Oper.semAt_eq _ _ _ VY,hex,q2];exact quiet v' q1 (fun h h' e=>by rw[vy]at e;cases e) (fun h h' e=>by rw[vy]at e;cases e)
  ·-- a block is made
   simp only at hv hh vy;obtain⟨o',k',hvf,A⟩:=nG hE hgk hf eF;have ha:Al ops.toList hs lg k md:=⟨Rt,vy,hh⟩;refine⟨fun _ _=>hF.fn _,?_⟩;rw[Oper.semAt_eq _ _ _ VY,hex,A.run w];obtain⟨hle,C'⟩:=C.alloc K hB vh ha hk (D7.mk' w o') (n:=k') fun a6 h b' sz=>A.obj a6 h base b' _ sz;refine hn _ _ ⟨c,_,C',(S.mono hle (Nat.le_refl _)).put X sO KR hk ?_⟩;rw[hv];refine A.val _ _ _ (dH.2 ⟨?_,bx _ _ _⟩);have:=ha.size;omega
  ·-- memory is turned
   have UP:lg k= .dr (hs k) (hs (k+1)):=vy;have rG:c≤k:=by
    have:=C.Es k _ _ Rt UP;rw[hk]at this;rcases Nat.lt_or_ge k c with h|h
    ·exact absurd (this.2 h) (by simp)
    ·exact h
   have N6:∀i,c≤i→i<k→∀h h',lg i≠ .dr h h':=by
    intro i h1 h2 g g' e;have hL:=C.Es i _ _ om e;have hp:=K.pass i k h2 Rt;rw[e,UP]at hp;simp only[bc]at hp;have:=hL.1 (fS X hC h2 KR hr (.inl hp));omega
   have Ck:=C.VX K hB vh (k - c) om (fun i h1 h2=>N6 i h1 om);rw[show c+(k - c)=k by omega]at Ck;have M7:max (hs k).size (hs c).size=(hs k).size:=Nat.max_eq_left (K.mono rG om);rw[M7]at hf;have Sk:mW ops.toList fs hs vs js a0 k L μ a:=S.mono μ.le_refl (K.mono rG om);refine Sj hE sm Cs Ct Cu hF hf Ck.rel UO hex fun gd v' w1 q1 q2=>?_;obtain⟨a6,e1,e2,C'⟩:=Ck.dr K Rt UP q2;refine hn _ _ ⟨k+1,a6,C',(Sk.mono e1 (K.step Rt)).put X sO KR hk ?_⟩;rw[Nat.max_self,e2];exact q1
 ·rw[qS,if_neg (by rw[hw];simp)];refine⟨fun _ _=>hF.fn _,hn _ _ ⟨c,μ,C.Et (fun h h' e=>by rw[vy]at e;cases e) (fun h h' e=>by rw[vy]at e;cases e),S.put X sO KR hk ?_⟩⟩;rw[hv];exact .undef _
end
theorem V0 {E:Env} {base:Nat} {cf:eR} {rf:dP} {all ops:List Oper} {fs:Nat→AF} {hs:Nat→ae} {vs:Nat→Value} {lg:Nat→dU} (T:Trace E base cf rf all ops fs hs vs lg) {uo:List dU}
 (hl:∀j,j<ops.length→uo[j]? =some (lg j)) (hp:lR (df ops []) 0 uo=true):HE ops hs lg:=by
 obtain⟨k1,k2⟩:=vw hp;refine⟨fun j hj=>?_,fun i j Zs hj=>?_⟩
 ·have hg:=k1 j _ (hl j hj);rcases T.run j _ (List.getElem?_eq_getElem hj)with⟨_,hr⟩|⟨_,_,h1,h2⟩
  ·rcases vq hr with⟨_,h1,h2⟩|⟨q,_,_,h1,h2⟩|⟨md,hd,_,_,h1,h2⟩|h2
   ·exact .inl ⟨h2,h1⟩
   ·simp only at h1 h2;rw[h2]at hg;exact .inr (.inl ⟨q,h2,h1,by simpa[ml]using hg⟩)
   ·exact .inr (.inr (.inl ⟨md,h2,h1⟩))
   ·simp only at h2;rw[h2]at hg;exact .inr (.inr (.inr ⟨h2,by simpa[ml]using hg⟩))
  ·exact .inl ⟨h2,h1⟩
 ·have:=k2 i j _ _ Zs (hl i om) (hl j hj);simpa using this
def G4 (listed:Array Bool):Nat→Bool:=fun j=>listed.getD j false
theorem JC {listed:Array Bool} {i:Nat} (hi:i<listed.size):G4 (listed.setIfInBounds i true)=rO (G4 listed) i:=by
 funext j
 unfold G4 rO;by_cases e:j=i
 ·subst e;rw[if_pos rfl];simp[hi]
 ·rw[if_neg e];simp only[Array.getD_eq_getD_getElem?,Array.getElem?_setIfInBounds_ne (fun h=>e h.symm)]
theorem mem_ready {ops:Array Oper} {listed:Array Bool} {i:Nat} (hi:i∈Region.ready .any ops listed) (fO:listed.size=ops.size):
 ∃o,ops[i]? =some o∧i<listed.size∧G4 listed i=false∧xD ops.toList (G4 listed) o:=by
 unfold Region.ready at hi;simp only[List.mem_filter,List.mem_range,Bool.and_eq_true,Bool.not_eq_true']at hi;obtain⟨h1,h2,h3⟩:=hi;have h4:=Array.getElem?_eq_getElem h1;rw[h4]at h3;simp only[Option.map_some,Option.getD_some,Array.all_eq_true_iff_forall_mem,Bool.or_eq_true,Bool.not_eq_true']at h3;refine⟨_,h4,om,?_,fun e he hb=>?_⟩
 ·have aU:i<listed.size:=by omega
  unfold G4;simp only[Array.getD,aU,dif_pos]at h2 ⊢;exact h2
 ·rcases h3 e (by simpa using he)with h5|h5
  ·rw[hb]at h5;cases h5
  ·exact h5
theorem AL {ops:Array Oper} {listed:Array Bool} (X:nP ops.toList) (fO:listed.size=ops.size) (h:Region.ready .any ops listed=[]):∀j,j<ops.size→G4 listed j=true:=by
 intro j
 induction j using Nat.strongRecOn with
 |ind j ih=>
  intro hj;cases hl:G4 listed j with
  |true=>rfl
  |false=>
   have hm:j∈Region.ready .any ops listed:=by
    unfold Region.ready;simp only[List.mem_filter,List.mem_range,Bool.and_eq_true,Bool.not_eq_true'];have h4:=Array.getElem?_eq_getElem hj;refine⟨hj,?_,?_⟩
    ·have aU:j<listed.size:=by omega
     unfold G4 at hl;simp only[Array.getD,aU,dif_pos]at hl ⊢;exact hl
    ·rw[h4];simp only[Option.map_some,Option.getD_some,Array.all_eq_true_iff_forall_mem,Bool.or_eq_true,Bool.not_eq_true'];intro e he;cases hb:Region.binds .any e with
     |false=>exact .inl rfl
     |true=>
      have:=X.Zr j _ (by rw[Array.getElem?_toList];exact h4) e (by simpa using he) hb;exact .inr (ih e.on this om)
   rw[h]at hm;cases hm
section
variable {P:Program} {E:Env} {base B:Nat} {cf:eR} {rf:dP} {fs:Nat→AF} {hs:Nat→ae} {vs:Nat→Value} {lg:Nat→dU}
variable {js:bt} {w0:World} {a0:Act}
theorem N7 (hE:bB P E) (sm:jX P E base B cf) (Cs:nJ P E base B rf) (Ct:nK E cf) (Cu:kQ rf) {F:Fence} (hF:gE F) {n:Nat} {ops:Array Oper}
 (X:nP ops.toList) (T:Trace E base cf rf ops.toList ops.toList fs hs vs lg) (K:HE ops.toList hs lg) (sO:jV (fs 0).n ops.toList=true) (H0:bq E base B js (hs 0) w0)
 {Q:Exit→Act→World→Prop} (hQ:∀L a w,(∀j,j<ops.size→L j=true)→Inv E base B ops.toList fs hs vs lg js w0 a0 L a w→Q .normal a w):
 ∀(fuel:Nat) (listed:Array Bool) (a:Act) (w:World),listed.size=ops.size→listed.toList.count false≤fuel→rN ops.toList (G4 listed)→Inv E base B ops.toList fs hs vs lg js w0 a0 (G4 listed) a w→
  wpAnyIn F n P .any ops Q fuel listed a w:=by
 intro fuel
 induction fuel with
 |zero=>
  intro listed a w fO acT hC I;have sP:Region.ready .any ops listed=[]:=by
   apply List.eq_nil_iff_forall_not_mem.2;intro i hi;obtain⟨o,_,h2,h3,_⟩:=mem_ready hi fO;have oI:false∈listed.toList:=by
    unfold G4 at h3;simp only[Array.getD,h2,dif_pos]at h3;rw[←h3];exact List.mem_of_getElem? (by rw[Array.getElem?_toList];exact Array.getElem?_eq_getElem h2)
   have:=List.count_pos_iff.2 oI;omega
  exact⟨sP,hQ _ _ _ (AL X fO sP) I⟩
 |succ fuel ih=>
  intro listed a w fO acT hC I;refine⟨fun sP=>hQ _ _ _ (AL X fO sP) I,fun i hi=>?_⟩;obtain⟨o,h1,h2,h3,h4⟩:=mem_ready hi fO;have wH:ops.toList[i]? =some o:=by simpa using h1
  refine wpOpIn_step h1 fun K' YD=>?_;refine Sv hE sm Cs Ct Cu hF X T K sO H0 I hC h1 h3 h4 fun a' w' I'=>YD _ _ (ih _ _ _ ?_ ?_ ?_ ?_)
  ·rw[Array.size_setIfInBounds];exact fO
  ·rw[Array.toList_setIfInBounds,List.count_set (by simpa using h2)];have eV:listed.toList[i]'(by simpa using h2)=false:=by
    unfold G4 at h3;simp only[Array.getD,h2,dif_pos]at h3;simpa using h3
   have oI:false∈listed.toList:=by rw[←eV];exact List.getElem_mem _
   have Cl:=List.count_pos_iff.2 oI;rw[eV];have e1:(if(true==false)=true then 1 else 0)=0:=rfl;have e2:(if(false==false)=true then 1 else 0)=1:=rfl;omega
  ·rw[JC h2];exact HF hC wH h4
  ·rw[JC h2];exact I'
theorem JD (hE:bB P E) (hm:P.follows .mixedOrders=true):Cw P E base B:=by
 intro cf rf sm Cs Ct Cu ops f h f' h' uo bN sO gY ZC μ a w hf H F n id Q hF hQ;obtain⟨fs,hs,vs,lg,T,e1,e2,e3,e4,e5⟩:=Ep gY;have X:=VU bN;have K:=V0 T e5 ZC;refine wpIn_region_any hm ?_;have H0:bq E base B μ (hs 0) {w with drawn:=w.drawn+1}:=by rw[e2];exact H.congr rfl
 have hls:∀j,G4 (Array.replicate ops.size false) j=false:=by
  intro j;unfold G4;by_cases hj:j<ops.size
  ·simp[hj]
  ·simp[hj]
 have Sp:cut μ (hs 0).size=μ:=by
  funext b
  unfold cut;split
  ·rfl
  ·cases hb:μ b with
   |none=>rfl
   |some m=>have:=H0.gh b m hb;omega
 have I0:Inv E base B ops.toList fs hs vs lg μ {w with drawn:=w.drawn+1} a (G4 (Array.replicate ops.size false)) a {w with drawn:=w.drawn+1}:=by
  refine⟨0,μ,⟨Nat.zero_le _,?_,by rw[Sp];exact H0,μ.le_refl,.refl _ _ _,?_,fun _ _ _=>rfl,?_,?_,?_,?_⟩,⟨?_,rfl,?_,?_⟩⟩
  ·intro j h h' _ _;rw[hls];simp
  ·intro b m h0 h1;rw[h0]at h1;cases h1
  ·intro j md hj;omega
  ·intro j md _ _ hl;rw[hls]at hl;cases hl
  ·intro b m hb hm;have:=H0.gh b m hm;omega
  ·intro b1 b2 m1 m2 ny h1;have:=H0.gh b1 m1 h1;omega
  ·rw[e1];exact hf.n.symm
  ·intro j o d _ hl;rw[hls]at hl;cases hl
  ·intro d _;rw[e1];exact hf.get d
 refine N7 hE sm Cs Ct Cu hF X T K (by rw[e1];exact sO) H0 (a0:=a) ?_ ops.size _ a _ (by simp) ?_ ?_ I0
 ·intro L a' w' gJ I;obtain⟨c,a6,C,S⟩:=I.ex;have hlen:ops.toList.length=ops.size:=by simp
  have Cn:=C.VX K H0.low H0.lK (ops.toList.length - c) (by have:=C.cN;omega) (fun i h1 h2 g g' hl=>by
   have h3:i<ops.toList.length:=by have:=C.cN;omega
   have:=(C.Es i _ _ h3 hl).1 (gJ i om);omega)
  have hcN:=C.cN;rw[show c+(ops.toList.length - c)=ops.toList.length by omega]at Cn;have hle:μ.le (cut a6 (hs ops.toList.length).size):=N0 Cn.Rs fun b m hb=>by
   have h1:=H0.gh b m hb;have h2:=K.mono (i:=0) (j:=ops.toList.length) (Nat.zero_le _) (Nat.le_refl _);omega
  have St:Step E base B μ (hs 0) {w with drawn:=w.drawn+1} (cut a6 (hs ops.toList.length).size) (hs ops.toList.length) w':=
   ⟨Cn.rel,Cn.grow,hle,fun b m h0 h1=>Cn.new b m h0 (dH.1 h1).2,Cn.Hf,K.mono (Nat.zero_le _) (Nat.le_refl _)⟩
  rw[e2,e4]at St;refine hQ _ a' w' ?_ S.dfs ((Step.drawn H _).trans St);rw[←e3];refine⟨by rw[T.VV _ (Nat.le_refl _),S.size],fun t=>?_⟩;by_cases hex:∃(j:Nat) (o:Oper),ops.toList[j]? =some o∧o.dst=some t
  ·obtain⟨j,o,ho,hd⟩:=hex;have hj:j<ops.toList.length:=(List.getElem?_eq_some_iff.1 ho).1;have YC:t<(fs 0).n:=by
    rw[e1];unfold jV at sO;have:=List.all_eq_true.1 sO o (List.mem_of_getElem? ho);rw[hd]at this;simpa using this
   rw[T.NZ X YC ho hd _ (Nat.le_refl _) hj];refine(S.w j o t ho (gJ j om) hd).mono ?_;rw[←e4];exact gM a6.le_refl (by
    have h1:=K.mono (i:=j+1) (j:=ops.toList.length) om (Nat.le_refl _);have h2:=K.mono (i:=c) (j:=ops.toList.length) C.cN (Nat.le_refl _);omega)
  ·rw[T.NY t _ (Nat.le_refl _) fun j o _ ho hd=>hex ⟨j,o,ho,hd⟩,←e4];exact(S.old t fun j o ho _ hd=>hex ⟨j,o,ho,hd⟩).mono hle
 ·simp
 ·intro j o ho hl;rw[hls]at hl;cases hl
end
def ew (P:Program) (qD:FuncId→List Value→ae→Option (Value×ae)):Env where
 desc:=fun t=>P.underlying t
 size:=fun t=>(P.info? t).map (·.size)
 bytes:=fun t=>(P.info? t).map (·.bytes)
 zero:=fun t=>(P.info? t).bind fun i=>i.zero.bind fun z=>bI (e8 z) (some z)
 sr:=fun t=> !P.eqGuardType P.depth t&& !P.stoodInHeld t
 func:=fun g=>(P.funcs[g]?).bind fun fn=>bI (fn.body.isSome&& !(fn.name== "runtime.NumGoroutine")) (some fn)
 xc:=fun _=>none
 still:=fun _=>false
 qD:=fun _=>qD
theorem xG (P:Program) (qD:FuncId→List Value→ae→Option (Value×ae)):bB P (ew P qD):=by
 refine⟨fun t d h=>h,fun t n h=>?_,fun t n h=>?_,fun t z h=>?_,fun t h=>?_,fun f fn h=>?_⟩
 ·simp only[ew,Option.map_eq_some_iff]at h;obtain⟨i,h1,h2⟩:=h;exact⟨i,h1,h2⟩
 ·simp only[ew,Option.map_eq_some_iff]at h;obtain⟨i,h1,h2⟩:=h;exact⟨i,h1,h2⟩
 ·simp only[ew,Option.bind_eq_some_iff,aj,Option.some.injEq]at h;obtain⟨i,h1,z',h2,h3,rfl⟩:=h;exact⟨⟨i,h1,h2⟩,h3⟩
 ·simp only[ew,Bool.and_eq_true,Bool.not_eq_true']at h;exact h
 ·simp only[ew,Option.bind_eq_some_iff,aj,Option.some.injEq,Bool.and_eq_true,Bool.not_eq_true']at h;obtain⟨i,h1,⟨h2,h3⟩,rfl⟩:=h;exact⟨h1,h2,h3⟩
section
variable {P:Program} {E:Env} {base B:Nat}
theorem xH (hE:bB P E) (hO:gL P E base B) (hm:P.follows .mixedOrders=true) (n:Nat):jX P E base B (g9 E base n):=
 NS hE hO (codeOk hE hO (JD hE hm) n).1
def oy:FuncId→List Value→ae→Option (Value×ae):=fun _ _ _=>none
theorem xI:gL P (ew P oy) base B:=fun μ h w g args args' v h' hr=>by
 have:(none:Option (Value×ae))=some (v,h'):=hr;cases this
def qP:ae:=⟨.nil,0⟩
def HG:bt:=fun _=>none
theorem ZD (hg:∀g,E.de g=false) (W:World):bq E 0 W.heap.size HG qP W:=by
 have no:∀{b:Nat} {m:MT},HG b=some m→False:=fun {b m} h=>by
  have:(none:Option MT)=some m:=h;cases this
 refine⟨fun b m h=>(no h).elim,fun b _=>rfl,fun b m h=>(no h).elim,fun b m h=>(no h).elim,fun b1 b2 m1 m2 h=>(no h).elim,fun b m r h=>(no h).elim,fun g h=>?_,Nat.le_refl _,Nat.le_refl _,fun b cs f c8 ba h=>?_,fun b m cs ba h=>(no h).elim⟩
 ·rw[hg g]at h;cases h
 ·have:(none:Option fk)=some (.cells cs f c8 ba):=h;cases this
theorem Ae {W W':World} {a6:bt} {h':ae} (S:Step E 0 W.heap.size HG qP W a6 h' W'):Go.RowKit.Below W.heap.size W W':=
 ⟨S.grow.os,S.grow.tape,S.grow.output,S.grow.size,fun k hk=>S.grow.bw k hk fun b m h=>by
  have:(none:Option MT)=some m:=h;cases this⟩
def xJ:Option (Value×ae)→Bool
 |some (.bool b,_)=>b
 |_=>false
theorem Af {x:Option (Value×ae)} (h:xJ x=true):∃h',x=some (.bool true,h'):=by
 unfold xJ at h;split at h
 ·subst h;exact⟨_,rfl⟩
 ·cases h
end
end Go.M
namespace Go.M
open Go Go.ChangeShapes Go.WideShapes Go.ChangeAt Go.RowKit
section
variable {H:Type} {enc:TypeId×Value→H} {P:Program}
theorem qT (hl:laidOutB P=true) {W W':World} {sp:Nat→Bool}:∀{ts:List TypeId} {vs:List Value} {ds:List (DataW H)} {ps:List MemPlace},(∀t∈ts,P.readableRec t=true∧t<P.types.size)→
 DataW.TrodAll enc P W 0 (fun _=>true) true ts vs ds ps→(∀p∈ps,W.sameAt W' p)→(∀p∈ps,sp p.block=true)→DataW.TrodAll enc P W' 0 sp true ts vs ds ps
 |[],[],[],ps,_,h,_,_=>h
 |t::ts,v::vs,d::ds,ps,hr,h,hs,hp=>by
  obtain⟨p,q,h1,h2,rfl⟩:=h;refine⟨p,q,?_,?_,rfl⟩
  ·exact WideElems.Trod_stays hl (hr t List.mem_cons_self).1 (hr t List.mem_cons_self).2 h1 (fun x hx=>hs x (List.mem_append_left _ hx)) (fun x hx=>hp x (List.mem_append_left _ hx))
  ·exact qT hl (fun u hu=>hr u (List.mem_cons_of_mem _ hu)) h2 (fun x hx=>hs x (List.mem_append_right _ hx)) (fun x hx=>hp x (List.mem_append_right _ hx))
 |[],[],_::_,_,_,h,_,_=>by simp[DataW.TrodAll]at h
 |[],_::_,_,_,_,h,_,_=>by simp[DataW.TrodAll]at h
 |_::_,[],_,_,_,h,_,_=>by simp[DataW.TrodAll]at h
 |_::_,_::_,[],_,_,h,_,_=>by simp[DataW.TrodAll]at h
theorem pa {W:World} {base:Nat} {sp:Nat→Bool} {held:Bool}:∀{ts:List TypeId} {vs:List Value} {ds:List (DataW H)} {ps:List MemPlace},DataW.TrodAll enc P W base sp held ts vs ds ps→ds.length=ts.length∧vs.length=ts.length
 |[],[],[],_,_=>⟨rfl,rfl⟩
 |t::ts,v::vs,d::ds,ps,h=>by
  obtain⟨p,q,_,h2,_⟩:=h;have:=pa h2;simp[this.1,this.2]
 |[],[],_::_,_,h=>by simp[DataW.TrodAll]at h
 |[],_::_,_,_,h=>by simp[DataW.TrodAll]at h
 |_::_,[],_,_,h=>by simp[DataW.TrodAll]at h
 |_::_,_::_,[],_,h=>by simp[DataW.TrodAll]at h
theorem La {f:Func} {s:ChangeSpec} {apart fresh:Bool} {W W':World} {args:Array Value} {ds gs:List (DataW H)} {before:List MemPlace} {tb:TypeId}
 (hW:DataW.Whole enc P f.params.toList s.vars apart W args.toList ds gs before) (UQ:s.vars=[]) (Hv:f.resultTypes= #[tb]) (hb:P.underlying tb=some .bool)
 (hl:laidOutB P=true) (hp:∀t∈f.params.toList,P.readableRec t=true∧t<P.types.size) (hs:s.fn H ds={results:=[.lit (.bool true)],args:=ds}) (V1:Below W.heap.size W W'):
 s.post enc P f apart fresh false false W args (.bool true) W':=by
 have hW':=hW;have aU:∀p∈before,p.block<W.heap.size:=fun p hp=>hW.lt p hp;have hold:∀p∈before,(fun b=>decide (b<W.heap.size)) p.block=true:=fun p hp=>by simpa using aU p hp
 obtain⟨p,q,hA,hV,rfl,hz,hn⟩:=hW;rw[UQ]at hV;obtain⟨rfl,rfl⟩:=trodVars_none hV;simp only[List.append_nil]at*
 have iT:∀sp:Nat→Bool,(∀x∈p,sp x.block=true)→DataW.TrodAll enc P W' 0 sp true f.params.toList args.toList (s.fn H ds).args p:=fun sp uv=>by
  rw[hs];exact qT hl hp hA (fun x hx=>V1.same (aU x hx)) uv
 have Ng:∀sp:Nat→Bool,DataW.TrodVars enc P W' sp s.vars (s.fn H ds).vars []:=fun sp=>by rw[hs,UQ];rfl
 have hr:∀(b:Nat) (sp:Nat→Bool) (hd:Bool),DataW.TrodAll enc P W' b sp hd f.resultTypes.toList ((Value.bool true).resultList f.resultTypes.size) (s.fn H ds).results []:=fun b sp hd=>by
  rw[hs,Hv];exact trodAll_mk1 (shut_bool hb true)
 have gl:=ok_one (W':=W') (v:=.bool true) Hv rfl (okWide_bool_mk hb true);refine⟨ds,[],p,[],p,[],hW',by simpa using hr _ _ _,by simpa using iT _ hold,by simpa using Ng _,World.keptBut_mono (fun x hx=>⟨hx,?_⟩) (V1.frame _),fun _=>?_⟩
 ·exact Or.inr (by simpa using hx)
 ·refine⟨gl,_,_,([]++p)++[],⟨[]++p,[],trodAll_append (by simpa using iT _ (fun _ _=>rfl)) (by simpa using hr _ _ _),by simpa using Ng _,rfl,?_,?_⟩,?_⟩
  ·intro b off oY;have Nc:MemPlace.cell b off∈p:=by simpa using oY
   have:=aU _ Nc;rw[V1.frozen (p:=⟨b,off,none⟩) this];exact hz b off (by simpa using Nc)
  ·intro ha;have:=hn ha;simpa using this
  ·intro x hx _;simpa using hx
def N8 (P:Program):List TypeId→List IntKind→Bool
 |[],[]=>true
 |t::ts,k::ks=>(match P.underlying t with|some (.int k')=>decide (k'=k)|_=>false)&&N8 P ts ks
 |_,_=>false
def aeD (P:Program) (t:TypeId) (ks:List IntKind):Bool:=
 match P.underlying t,P.cellTypes P.depth t with
 |some (.struct _),some ts=>Nat.beq (P.cellsOf t) ts.length&&N8 P ts ks
 |_,_=>false
end
end Go.M
