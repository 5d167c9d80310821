/-
  Part 4 of the library that the proof leans on.
-/
import Derived.Test.YtmocpiopjkmnhaaGreatDoorL3
import Derived.Carry
import Derived.OpenShut
import Derived.KernelRfl
import Derived.WalkKit
import Derived.ProofKit
namespace Go.M
open Go
structure TOk (ops:List Oper) (hs:Nat→AHeap) (lg:Nat→LogE):Prop where
 kind:∀j,j<ops.length→(lg j= .pure∧hs (j+1)=hs j)∨(∃q,lg j= .rd q (hs j)∧hs (j+1)=hs j∧q.blk<(hs j).size)∨
  (∃md:Made,lg j= .alloc (hs j) (hs (j+1))∧hs (j+1)=(hs j).push (md.obj (hs j).size))∨(lg j= .eff (hs j) (hs (j+1))∧(hs j).size≤(hs (j+1)).size)
 pass:∀i j,i<j→j<ops.length→mayPass (befores ops []) i (lg i) j (lg j)=true
def Al (ops:List Oper) (hs:Nat→AHeap) (lg:Nat→LogE) (j:Nat) (md:Made):Prop:=
 j<ops.length∧lg j= .alloc (hs j) (hs (j+1))∧hs (j+1)=(hs j).push (md.obj (hs j).size)
section
variable {E:Env} {base B:Nat} {ops:List Oper} {hs:Nat→AHeap} {lg:Nat→LogE}
theorem TOk.step (X:TOk ops hs lg) {j:Nat} (hj:j<ops.length):(hs j).size≤(hs (j+1)).size:=by
 rcases X.kind j hj with⟨_,h⟩|⟨q,_,h,_⟩|⟨md,_,h⟩|⟨_,h⟩
 ·rw[h];exact Nat.le_refl _
 ·rw[h];exact Nat.le_refl _
 ·rw[h,AHeap.size_push];omega
 ·exact h
theorem TOk.mono (X:TOk ops hs lg) {i:Nat}:∀{j:Nat},i≤j→j≤ops.length→(hs i).size≤(hs j).size:=by
 intro j
 induction j with
 |zero=>intro h _;rw[Nat.le_zero.1 h];exact Nat.le_refl _
 |succ j ih=>
  intro h hj
  by_cases e:i=j+1
  ·subst e;exact Nat.le_refl _
  ·exact Nat.le_trans (ih (by omega) (by omega)) (X.step (by omega))
theorem Al.size {j:Nat} {md:Made} (h:Al ops hs lg j md):(hs (j+1)).size=(hs j).size+1:=by rw[h.2.2];rfl
theorem Al.inj (X:TOk ops hs lg) {i j:Nat} {md md':Made} (h:Al ops hs lg i md) (k:Al ops hs lg j md') (e:(hs i).size=(hs j).size):i=j:=by
 rcases Nat.lt_trichotomy i j with hl|hl|hl
 ·have:=X.mono (i:=i+1) (j:=j) hl (by have:=k.1;omega)
  rw[h.size]at this;omega
 ·exact hl
 ·have:=X.mono (i:=j+1) (j:=i) hl (by have:=h.1;omega)
  rw[k.size]at this;omega
theorem made_self (md:Made) (b:Nat):∀cs f tip thr,md.obj b= .cells cs f tip thr→f=b∧tip=b:=by
 intro cs f tip thr h
 cases md<;>simp[Made.obj]at h
 exact⟨h.2.1.symm,h.2.2.1.symm⟩
theorem TOk.chain (X:TOk ops hs lg) {q:RQ} {lo:Nat} (hb:q.blk<(hs lo).size):∀{hi:Nat},lo≤hi→hi≤ops.length→
 (∀i,lo≤i→i<hi→((lg i= .eff (hs i) (hs (i+1)))→sameRQ (hs i) (hs (i+1)) q=true)∧((lg i= .alloc (hs i) (hs (i+1)))→stayRQ (hs i) q=true))→q.run (hs hi)=q.run (hs lo):=by
 intro hi
 induction hi with
 |zero=>intro h _ _;rw[Nat.le_zero.1 h]
 |succ k ih=>
  intro h hk hsame
  by_cases e:lo=k+1
  ·subst e;rfl
  ·have h1:=ih (by omega) (by omega) fun i hi1 hi2=>hsame i hi1 (by omega)
   rw[←h1]
   have hbk:q.blk<(hs k).size:=Nat.lt_of_lt_of_le hb (X.mono (by omega) (by omega))
   rcases X.kind k (by omega)with⟨_,h⟩|⟨q',_,h,_⟩|⟨md,h,h'⟩|⟨h,_⟩
   ·rw[h]
   ·rw[h]
   ·rw[h'];exact stay_run ((hsame k (by omega) (by omega)).2 h) hbk
   ·exact sameRQ_run ((hsame k (by omega) (by omega)).1 h) hbk
structure Core (E:Env) (base B:Nat) (ops:List Oper) (hs:Nat→AHeap) (lg:Nat→LogE) (μ0:Emb) (w0:World) (c:Nat) (L:Nat→Bool) (μ:Emb) (w:World):Prop where
 cN:c≤ops.length
 effs:∀j h h',j<ops.length→lg j= .eff h h'→(L j=true↔j<c)
 rel:HRel E base B (cut μ (hs c).size) (hs c) w
 le0:μ0.le μ
 grow:Grow base μ0 w0 w
 new:∀b m,μ0 b=none→μ b=some m→(hs 0).size≤b∧base≤b∧(w0.heap.size≤m.r∨∃b0 m0,base≤b0∧μ0 b0=some m0∧m0.r=m.r)
 unt:∀b,b<(hs 0).size→μ0 b=none→(hs c).get b=(hs 0).get b
 late:∀j md,j<c→Al ops hs lg j md→L j=false→μ (hs j).size=none∧(hs c).get (hs j).size=some (md.obj (hs j).size)
 got:∀j md,c≤j→Al ops hs lg j md→L j=true→∃m,μ (hs j).size=some m
 pend:∀b m,(hs c).size≤b→μ b=some m→∃j md o',c≤j∧L j=true∧Al ops hs lg j md∧b=(hs j).size∧w.heap[m.r]? =some o'∧(w0.heap.size≤m.r∧m.s=0)∧
  ∀μ' h b',(cut μ (hs j).size).le μ'→ORel μ' h base b' m (md.obj b') o'
 apart:∀b1 b2 m1 m2,(hs c).size≤b1→μ b1=some m1→μ b2=some m2→m1.r=m2.r→b1=b2
def setL (L:Nat→Bool) (k:Nat):Nat→Bool:=fun j=>if j=k then true else L j
theorem setL_self (L:Nat→Bool) (k:Nat):setL L k k=true:=by simp[setL]
theorem setL_ne {L:Nat→Bool} {k j:Nat} (h:j≠k):setL L k j=L j:=by simp[setL,h]
theorem setL_of {L:Nat→Bool} {k j:Nat} (h:L j=true):setL L k j=true:=by unfold setL;split<;>simp[h]
variable {μ0:Emb} {w0:World} {c:Nat} {L:Nat→Bool} {μ:Emb} {w:World}
theorem Core.go (X:TOk ops hs lg) (C:Core E base B ops hs lg μ0 w0 c L μ w) (hc:c<ops.length) (hne:∀h h',lg c≠ .eff h h') (hB:B≤w0.heap.size) (hb0:base≤(hs 0).size):Core E base B ops hs lg μ0 w0 (c+1) L μ w:=by
 have heff:∀j h h',j<ops.length→lg j= .eff h h'→(L j=true↔j<c+1):=fun j h h' hj hl=>by
  rw[C.effs j h h' hj hl]
  constructor
  ·intro h;omega
  ·intro h1
   have:j≠c:=fun e=>by subst e;exact hne _ _ hl
   omega
 have same:hs (c+1)=hs c→(∀md,¬Al ops hs lg c md)→Core E base B ops hs lg μ0 w0 (c+1) L μ w:=by
  intro e hna
  refine⟨hc,heff,by rw[e];exact C.rel,C.le0,C.grow,C.new,by rw[e];exact C.unt,?_,?_,?_,by rw[e];exact C.apart⟩
  ·intro j md hj hal hl
   rw[e]
   have:j≠c:=fun h=>by subst h;exact hna _ hal
   exact C.late j md (by omega) hal hl
  ·intro j md hj;exact C.got j md (by omega)
  ·rw[e];intro b m hb hm
   obtain⟨j,md,o',k1,k2,k3,k4⟩:=C.pend b m hb hm
   have:j≠c:=fun h=>by subst h;exact hna _ k3
   exact⟨j,md,o',by omega,k2,k3,k4⟩
 rcases X.kind c hc with⟨h1,h2⟩|⟨q,h1,h2,_⟩|⟨md,h1,h2⟩|⟨h1,_⟩
 ·exact same h2 fun md ha=>by have:=ha.2.1;rw[h1]at this;cases this
 ·exact same h2 fun md ha=>by have:=ha.2.1;rw[h1]at this;cases this
 ·have hal:Al ops hs lg c md:=⟨hc,h1,h2⟩
  have hsz:=hal.size
  have h00:=X.mono (i:=0) (j:=c) (Nat.zero_le _) C.cN
  have hself:=made_self md (hs c).size
  have Hp:HRel E base B (cut μ (hs c).size) (hs (c+1)) w:=by rw[h2];exact C.rel.pushA fun cs f tip thr e=>(hself cs f tip thr e).1
  have hget:(hs (c+1)).get (hs c).size=some (md.obj (hs c).size):=by rw[h2,AHeap.get_push,if_pos rfl]
  have hold:∀b,b<(hs c).size→(hs (c+1)).get b=(hs c).get b:=fun b hb=>by rw[h2,AHeap.get_push,if_neg (by omega)]
  have hrel:HRel E base B (cut μ (hs (c+1)).size) (hs (c+1)) w:=by
   cases hm:μ (hs c).size with
   |none=>
    have e:cut μ (hs (c+1)).size=cut μ (hs c).size:=by
     funext b
     unfold cut
     by_cases e1:b<(hs c).size
     ·rw[if_pos e1,if_pos (by omega)]
     ·rw[if_neg e1]
      split
      ·have:b=(hs c).size:=by omega
       rw[this];exact hm
      ·rfl
    rw[e];exact Hp
   |some m=>
    have e:cut μ (hs (c+1)).size=upd (cut μ (hs c).size) (hs c).size m:=by
     funext b
     unfold cut upd
     by_cases e1:b=(hs c).size
     ·subst e1;rw[if_pos (by omega),if_pos rfl,hm]
     ·rw[if_neg e1]
      show _=if b<(hs c).size then μ b else none
      by_cases e2:b<(hs c).size
      ·rw[if_pos e2,if_pos (by omega)]
      ·rw[if_neg e2,if_neg (by omega)]
    obtain⟨j,md',o',k1,k2,k3,k4,k5,k6,k7⟩:=C.pend _ m (Nat.le_refl _) hm
    have hjc:j=c:=(Al.inj X hal k3 k4).symm
    subst hjc
    have hmd:md'.obj (hs j).size=md.obj (hs j).size:=by
     have h3:=k3.2.2
     have:(hs (j+1)).get (hs j).size=some (md'.obj (hs j).size):=by rw[h3,AHeap.get_push,if_pos rfl]
     rw[hget]at this;exact(Option.some.inj this).symm
    rw[e]
    refine Hp.track (by omega) hget (by unfold cut;rw[if_neg (by omega)]) (by omega) (by omega) k5 ?_ (fun cs f tip thr e=>⟨(hself cs f tip thr e).1,Nat.le_of_eq (hself cs f tip thr e).2.symm⟩) (fun _ _ _=>k6.2) ?_
    ·intro d md2 hd he
     have hd2:=cut_some.1 hd
     have:=C.apart _ _ _ _ (Nat.le_refl _) hm hd2.2 he.symm
     omega
    ·rw[←hmd]
     exact k7 _ _ _ (by
      rw[←e];exact cut_mono μ.le_refl (by omega))
  refine⟨hc,heff,hrel,C.le0,C.grow,C.new,?_,?_,?_,?_,?_⟩
  ·intro b hb h0
   rw[hold b (by omega)];exact C.unt b hb h0
  ·intro j md' hj ha hl
   by_cases e:j=c
   ·subst e
    have hmd:md'.obj (hs j).size=md.obj (hs j).size:=by
     have h3:=ha.2.2
     have:(hs (j+1)).get (hs j).size=some (md'.obj (hs j).size):=by rw[h3,AHeap.get_push,if_pos rfl]
     rw[hget]at this;exact(Option.some.inj this).symm
    refine⟨?_,by rw[hmd];exact hget⟩
    cases hm:μ (hs j).size with
    |none=>rfl
    |some m=>
     obtain⟨j',md2,o',k1,k2,k3,k4,_⟩:=C.pend _ m (Nat.le_refl _) hm
     have:j'=j:=(Al.inj X hal k3 k4).symm
     subst this
     rw[hl]at k2;cases k2
   ·obtain⟨q1,q2⟩:=C.late j md' (by omega) ha hl
    have hjs:(hs j).size<(hs c).size:=by
     have:=X.mono (i:=j+1) (j:=c) (by omega) C.cN
     rw[ha.size]at this;omega
    exact⟨q1,by rw[hold _ hjs];exact q2⟩
  ·intro j md' hj;exact C.got j md' (by omega)
  ·intro b m hb hm
   obtain⟨j,md',o',k1,k2,k3,k4,k5⟩:=C.pend b m (by omega) hm
   have:j≠c:=fun h=>by subst h;omega
   exact⟨j,md',o',by omega,k2,k3,k4,k5⟩
  ·intro b1 b2 m1 m2 hb1;exact C.apart b1 b2 m1 m2 (by omega)
 ·exact absurd h1 (hne _ _)
theorem Core.goTo (X:TOk ops hs lg) (hB:B≤w0.heap.size) (hb0:base≤(hs 0).size):∀(n:Nat) {c:Nat},Core E base B ops hs lg μ0 w0 c L μ w→c+n≤ops.length→(∀i,c≤i→i<c+n→∀h h',lg i≠ .eff h h')→Core E base B ops hs lg μ0 w0 (c+n) L μ w
 |0,c,C,_,_=>C
 |n+1,c,C,hn,hne=>by
  have:=Core.goTo X hB hb0 n (c:=c+1) (C.go X (by omega) (hne c (Nat.le_refl _) (by omega)) hB hb0) (by omega) (fun i h1 h2=>hne i (by omega) (by omega))
  rw[show c+(n+1)=c+1+n by omega];exact this
theorem Core.setQuiet (C:Core E base B ops hs lg μ0 w0 c L μ w) {k:Nat} (h1:∀h h',lg k≠ .eff h h') (h2:∀h h',lg k≠ .alloc h h'):Core E base B ops hs lg μ0 w0 c (setL L k) μ w:=by
 have hal:∀{j md},Al ops hs lg j md→j≠k:=fun ha e=>by subst e;exact h2 _ _ ha.2.1
 refine⟨C.cN,?_,C.rel,C.le0,C.grow,C.new,C.unt,?_,?_,?_,C.apart⟩
 ·intro j h h' hj hl
  rw[setL_ne (fun e=>by subst e;exact h1 _ _ hl)];exact C.effs j h h' hj hl
 ·intro j md hj ha hl
  rw[setL_ne (hal ha)]at hl;exact C.late j md hj ha hl
 ·intro j md hj ha hl
  rw[setL_ne (hal ha)]at hl;exact C.got j md hj ha hl
 ·intro b m hb hm
  obtain⟨j,md,o',k1,k2,k3⟩:=C.pend b m hb hm
  exact⟨j,md,o',k1,setL_of k2,k3⟩
end
end Go.M
namespace Go.M
open Go
section
variable {E:Env} {base B:Nat} {ops:List Oper} {hs:Nat→AHeap} {lg:Nat→LogE}
variable {μ0:Emb} {w0:World} {c:Nat} {L:Nat→Bool} {μ:Emb} {w w':World}
theorem Core.lt (C:Core E base B ops hs lg μ0 w0 c L μ w) {b:Nat} {m:MT} (hm:μ b=some m):m.r<w.heap.size:=by
 by_cases hb:b<(hs c).size
 ·exact C.rel.lt (cut_some.2 ⟨hb,hm⟩)
 ·obtain⟨j,md,o',_,_,_,_,k5,_⟩:=C.pend b m (by omega) hm
  exact(Array.getElem?_eq_some_iff.1 k5).1
theorem Core.alloc (X:TOk ops hs lg) (C:Core E base B ops hs lg μ0 w0 c L μ w) (hB:B≤w0.heap.size) (hb0:base≤(hs 0).size) {k:Nat} {md:Made} (ha:Al ops hs lg k md) (hk:L k=false) {o':Obj} (hw:Alc w o' w') {n:Nat}
 (hobj:∀μ' h b',(cut μ (max (hs k).size (hs c).size)).le μ'→ORel μ' h base b' ⟨w.heap.size,0,n⟩ (md.obj b') o'):
 μ.le (upd μ (hs k).size ⟨w.heap.size,0,n⟩)∧Core E base B ops hs lg μ0 w0 c (setL L k) (upd μ (hs k).size ⟨w.heap.size,0,n⟩) w':=by
 have hsz:=ha.size
 have h00:=X.mono (i:=0) (j:=k) (Nat.zero_le _) (by have:=ha.1;omega)
 have hge:∀{j:Nat} {md':Made},Al ops hs lg j md'→(hs c).size≤(hs j).size→c≤j:=by
  intro j md' hj hle
  by_cases h:c≤j
  ·exact h
  ·have:=X.mono (i:=j+1) (j:=c) (by omega) C.cN
   rw[hj.size]at this;omega
 have hnone:μ (hs k).size=none:=by
  by_cases hkc:k<c
  ·exact(C.late k md hkc ha hk).1
  ·cases hm:μ (hs k).size with
   |none=>rfl
   |some m=>
    obtain⟨j,md',o2,k1,k2,k3,k4,_⟩:=C.pend _ m (X.mono (by omega) (by have:=ha.1;omega)) hm
    have:k=j:=Al.inj X ha k3 k4
    subst this
    rw[hk]at k2;cases k2
 have hle:μ.le (upd μ (hs k).size ⟨w.heap.size,0,n⟩):=upd_le hnone
 have cas:∀{d:Nat} {md:MT},upd μ (hs k).size ⟨w.heap.size,0,n⟩ d=some md→(d=(hs k).size∧md=⟨w.heap.size,0,n⟩)∨(d≠(hs k).size∧μ d=some md):=by
  intro d md hd
  by_cases e:d=(hs k).size
  ·subst e;rw[upd_self]at hd;cases hd;exact .inl ⟨rfl,rfl⟩
  ·rw[upd_ne _ _ e]at hd;exact .inr ⟨e,hd⟩
 have hgw:=C.grow.size
 have hkeep:∀r,r<w.heap.size→w'.heap[r]? =w.heap[r]? :=fun r hr=>by rw[hw.get,if_neg (by omega)]
 have hself:w'.heap[w.heap.size]? =some o':=by rw[hw.get,if_pos rfl]
 refine⟨hle,C.cN,?_,?_,Emb.le_trans C.le0 hle,?_,?_,C.unt,?_,?_,?_,?_⟩
 ·intro j h h' hj hl
  rw[setL_ne (fun e=>by subst e;have:=ha.2.1;rw[hl]at this;cases this)];exact C.effs j h h' hj hl
 ·by_cases hkc:k<c
  ·have hks:(hs k).size<(hs c).size:=by
    have:=X.mono (i:=k+1) (j:=c) (by omega) C.cN
    omega
   have e:cut (upd μ (hs k).size ⟨w.heap.size,0,n⟩) (hs c).size=upd (cut μ (hs c).size) (hs k).size ⟨w.heap.size,0,n⟩:=by
    funext b
    unfold cut upd
    by_cases e1:b=(hs k).size
    ·subst e1;rw[if_pos hks];simp
    ·rw[if_neg e1]
     rw[if_neg e1]
   obtain⟨q1,q2⟩:=C.late k md hkc ha hk
   have hmx:max (hs k).size (hs c).size=(hs c).size:=Nat.max_eq_right (by omega)
   rw[e]
   refine(C.rel.alc hw).track hks q2 (by unfold cut;rw[if_pos hks];exact q1) (by omega) (by show B≤w.heap.size;omega) hself ?_ (fun cs f tip thr e=>⟨(made_self md _ cs f tip thr e).1,Nat.le_of_eq (made_self md _ cs f tip thr e).2.symm⟩) (fun _ _ _=>rfl) ?_
   ·intro d md2 hd he
    have:=C.lt (cut_some.1 hd).2
    simp only at he;omega
   ·refine hobj _ _ _ ?_
    rw[hmx]
    exact upd_le (by unfold cut;rw[if_pos hks];exact q1)
  ·have hks:(hs c).size≤(hs k).size:=X.mono (by omega) (by have:=ha.1;omega)
   have e:cut (upd μ (hs k).size ⟨w.heap.size,0,n⟩) (hs c).size=cut μ (hs c).size:=by
    funext b
    unfold cut upd
    by_cases e1:b<(hs c).size
    ·rw[if_pos e1,if_pos e1,if_neg (by omega)]
    ·rw[if_neg e1,if_neg e1]
   rw[e];exact C.rel.alc hw
 ·refine⟨hw.tape.trans C.grow.tape,hw.os.trans C.grow.os,hw.output.trans C.grow.output,by rw[hw.size];omega,fun r hr hk=>?_⟩
  rw[hkeep r (by omega)];exact C.grow.keep r hr hk
 ·intro b m h0 hm
  rcases cas hm with⟨rfl,rfl⟩|⟨_,h2⟩
  ·exact⟨h00,by omega,.inl hgw⟩
  ·exact C.new b m h0 h2
 ·intro j md' hj hj2 hl
  have hne:j≠k:=fun e=>by subst e;rw[setL_self]at hl;cases hl
  rw[setL_ne hne]at hl
  obtain⟨q1,q2⟩:=C.late j md' hj hj2 hl
  exact⟨by rw[upd_ne _ _ (fun e=>hne (Al.inj X hj2 ha e))];exact q1,q2⟩
 ·intro j md' hj hj2 hl
  by_cases e:j=k
  ·subst e;exact⟨_,upd_self _ _ _⟩
  ·rw[setL_ne e]at hl
   obtain⟨m,hm⟩:=C.got j md' hj hj2 hl
   exact⟨m,hle _ _ hm⟩
 ·intro b m hb hm
  rcases cas hm with⟨rfl,rfl⟩|⟨_,h2⟩
  ·have hck:=hge ha hb
   have hmx:max (hs k).size (hs c).size=(hs k).size:=Nat.max_eq_left hb
   exact⟨k,md,o',hck,setL_self _ _,ha,rfl,hself,⟨hgw,rfl⟩,fun μ' h b' hμ=>hobj μ' h b' (by rw[hmx];exact Emb.le_trans (cut_mono hle (Nat.le_refl _)) hμ)⟩
  ·obtain⟨j,md',o2,k1,k2,k3,k4,k5,k6,k7⟩:=C.pend b m hb h2
   exact⟨j,md',o2,k1,setL_of k2,k3,k4,by rw[hkeep _ (C.lt h2)];exact k5,k6,fun μ' h b' hμ=>k7 μ' h b' (Emb.le_trans (cut_mono hle (Nat.le_refl _)) hμ)⟩
 ·intro b1 b2 m1 m2 hb1 h1 h2 he
  rcases cas h1 with⟨rfl,rfl⟩|⟨_,h1⟩<;>rcases cas h2 with⟨rfl,rfl⟩|⟨_,h2⟩
  ·rfl
  ·have:=C.lt h2;simp only at he;omega
  ·have:=C.lt h1;simp only at he;omega
  ·exact C.apart b1 b2 m1 m2 hb1 h1 h2 he
theorem Core.eff (X:TOk ops hs lg) (C:Core E base B ops hs lg μ0 w0 c L μ w) (hc:c<ops.length) (he:lg c= .eff (hs c) (hs (c+1))) {μ1:Emb} {w1:World} (S:Step E base B (cut μ (hs c).size) (hs c) w μ1 (hs (c+1)) w1):
 ∃μ',μ.le μ'∧cut μ' (hs (c+1)).size=μ1∧Core E base B ops hs lg μ0 w0 (c+1) (setL L c) μ' w1:=by
 have hst:=X.step hc
 have hnal:∀{j md},Al ops hs lg j md→j≠c:=fun ha e=>by subst e;have:=ha.2.1;rw[he]at this;cases this
 -- whoever is made early stands behind
 have hpend:∀b m,(hs c).size≤b→μ b=some m→(hs (c+1)).size≤b:=by
  intro b m hb hm
  obtain⟨j,md,o',k1,k2,k3,k4,_⟩:=C.pend b m hb hm
  have:=hnal k3
  rw[k4];exact X.mono (by omega) (by have:=k3.1;omega)
 let μ':Emb:=fun b=>if b<(hs (c+1)).size then μ1 b else μ b
 have hlt:∀b,b<(hs (c+1)).size→μ' b=μ1 b:=fun b hb=>if_pos hb
 have hge:∀b,(hs (c+1)).size≤b→μ' b=μ b:=fun b hb=>if_neg (by omega)
 have hle:μ.le μ':=by
  intro b m hm
  by_cases hb:b<(hs (c+1)).size
  ·rw[hlt b hb]
   refine S.le b m (cut_some.2 ⟨?_,hm⟩)
   by_cases h2:b<(hs c).size
   ·exact h2
   ·have:=hpend b m (by omega) hm;omega
  ·rw[hge b (by omega)];exact hm
 have hcut:cut μ' (hs (c+1)).size=μ1:=by
  funext b
  unfold cut
  by_cases hb:b<(hs (c+1)).size
  ·rw[if_pos hb,hlt b hb]
  ·rw[if_neg hb]
   cases hm:μ1 b with
   |none=>rfl
   |some m=>have:=S.rel.dom b m hm;omega
 have hkeep:∀b m,(hs c).size≤b→μ b=some m→w1.heap[m.r]? =w.heap[m.r]? :=by
  intro b m hb hm
  refine S.grow.keep m.r (C.lt hm) fun b2 m2 hb2 he2=>?_
  have h2:=cut_some.1 hb2
  have:=C.apart b b2 m m2 hb hm h2.2 he2.symm
  omega
 have cas:∀{b:Nat} {m:MT},μ' b=some m→(μ b=some m)∨(μ b=none∧b<(hs (c+1)).size∧(hs c).size≤b∧base≤b∧(w.heap.size≤m.r∨∃b0 m0,base≤b0∧b0<(hs c).size∧μ b0=some m0∧m0.r=m.r)):=by
  intro b m hm
  cases h0:μ b with
  |some m0=>have:=hle b m0 h0;rw[hm]at this;cases this;exact .inl rfl
  |none=>
   by_cases hb:b<(hs (c+1)).size
   ·rw[hlt b hb]at hm
    have hn:cut μ (hs c).size b=none:=by unfold cut;split<;>first|exact h0|rfl
    obtain⟨q1,q2,q3⟩:=S.new b m hn hm
    refine .inr ⟨rfl,hb,q1,q2,?_⟩
    rcases q3 with q3|⟨b0,m0,q3,q4,q5⟩
    ·exact .inl q3
    ·have:=cut_some.1 q4
     exact .inr ⟨b0,m0,q3,this.1,this.2,q5⟩
   ·rw[hge b (by omega),h0]at hm;cases hm
 refine⟨μ',hle,hcut,hc,?_,by rw[hcut];exact S.rel,Emb.le_trans C.le0 hle,?_,?_,?_,?_,?_,?_,?_⟩
 ·intro j h h' hj hl
  by_cases e:j=c
  ·subst e;rw[setL_self];simp
  ·rw[setL_ne e,C.effs j h h' hj hl];omega
 ·refine⟨S.grow.tape.trans C.grow.tape,S.grow.os.trans C.grow.os,S.grow.output.trans C.grow.output,Nat.le_trans C.grow.size S.grow.size,fun r hr hk=>?_⟩
  rw[S.grow.keep r (Nat.lt_of_lt_of_le hr C.grow.size) ?_,C.grow.keep r hr hk]
  intro b m hb hmr
  have hm:=(cut_some.1 hb).2
  cases h0:μ0 b with
  |some m0=>
   have:=C.le0 b m0 h0
   rw[hm]at this;cases this
   exact hk b m h0 hmr
  |none=>
   obtain⟨_,_,h3⟩:=C.new b m h0 hm
   rcases h3 with h3|⟨b0,m0,hb0,hm0,hr0⟩
   ·omega
   ·have:=hk b0 m0 hm0 (hr0.trans hmr);omega
 ·intro b m h0 hm
  rcases cas hm with hm|⟨hn,hb1,hb2,hb3,hb4⟩
  ·exact C.new b m h0 hm
  ·have h00:=X.mono (i:=0) (j:=c) (Nat.zero_le _) C.cN
   refine⟨by omega,hb3,?_⟩
   rcases hb4 with hb4|⟨b0,m0,q1,q2,q3,q4⟩
   ·exact .inl (Nat.le_trans C.grow.size hb4)
   ·cases h00:μ0 b0 with
    |some m00=>
     have:=C.le0 b0 m00 h00
     rw[q3]at this;cases this
     exact .inr ⟨b0,m0,q1,h00,q4⟩
    |none=>
     obtain⟨_,_,hx⟩:=C.new b0 m0 h00 q3
     rcases hx with hx|⟨b1,m1,r1,r2,r3⟩
     ·exact .inl (by omega)
     ·exact .inr ⟨b1,m1,r1,r2,r3.trans q4⟩
 ·intro b hb h0
  have h00:=X.mono (i:=0) (j:=c) (Nat.zero_le _) C.cN
  rw[S.unt b (by omega) ?_,C.unt b hb h0]
  cases hm:cut μ (hs c).size b with
  |none=>rfl
  |some m=>have:=(C.new b m h0 (cut_some.1 hm).2).1;omega
 ·intro j md hj ha hl
  have hne:=hnal ha
  rw[setL_ne hne]at hl
  obtain⟨q1,q2⟩:=C.late j md (by omega) ha hl
  have hjs:(hs j).size<(hs c).size:=by
   have:=X.mono (i:=j+1) (j:=c) (by omega) C.cN
   rw[ha.size]at this;omega
  have hn:cut μ (hs c).size (hs j).size=none:=by unfold cut;split<;>first|exact q1|rfl
  refine⟨?_,by rw[S.unt _ hjs hn];exact q2⟩
  rw[hlt _ (by omega)]
  cases hm:μ1 (hs j).size with
  |none=>rfl
  |some m=>have:=(S.new _ m hn hm).1;omega
 ·intro j md hj ha hl
  rw[setL_ne (hnal ha)]at hl
  obtain⟨m,hm⟩:=C.got j md (by omega) ha hl
  exact⟨m,hle _ _ hm⟩
 ·intro b m hb hm
  rw[hge b hb]at hm
  obtain⟨j,md,o',k1,k2,k3,k4,k5,k6,k7⟩:=C.pend b m (by omega) hm
  have:=hnal k3
  exact⟨j,md,o',by omega,setL_of k2,k3,k4,by rw[hkeep b m (by omega) hm];exact k5,k6,fun μ2 h b' hμ=>k7 μ2 h b' (Emb.le_trans (cut_mono hle (Nat.le_refl _)) hμ)⟩
 ·intro b1 b2 m1 m2 hb1 h1 h2 hr
  rw[hge b1 hb1]at h1
  rcases cas h2 with h2|⟨hn,_,hb2,_,hb4⟩
  ·exact C.apart b1 b2 m1 m2 (by omega) h1 h2 hr
  ·have hlt1:=C.lt h1
   rcases hb4 with hb4|⟨b0,m0,q1,q2,q3,q4⟩
   ·omega
   ·have:=C.apart b1 b0 m1 m0 (by omega) h1 q3 (hr.trans q4.symm)
    omega
end
end Go.M
namespace Go.M
open Go
section
variable {P:Program} {E:Env} {base B:Nat} {cf:CallF} {rf:RoundF} {ops:List Oper} {fs:Nat→AF} {hs:Nat→AHeap} {vs:Nat→Value} {lg:Nat→LogE}
variable {μ0:Emb} {w0:World} {a0:Act} {c:Nat} {L:Nat→Bool} {μ μ':Emb} {w w':World} {a:Act}
structure Slots (ops:List Oper) (fs:Nat→AF) (hs:Nat→AHeap) (vs:Nat→Value) (μ0:Emb) (a0:Act) (c:Nat) (L:Nat→Bool) (μ:Emb) (a:Act):Prop where
 size:a.tmps.size=(fs 0).n
 dfs:a.defers=a0.defers
 w:∀(j:Nat) (o:Oper) (d:Tmp),ops[j]? =some o→L j=true→o.dst=some d→VRel (cut μ (max (hs (j+1)).size (hs c).size)) (vs j) (a.tmps.getD d undef)
 old:∀d:Tmp,(∀(j:Nat) (o:Oper),ops[j]? =some o→L j=true→o.dst≠some d)→VRel μ0 ((fs 0).get d) (a.tmps.getD d undef)
theorem Slots.mono (S:Slots ops fs hs vs μ0 a0 c L μ a) (hle:μ.le μ') {c':Nat} (hc:(hs c).size≤(hs c').size):Slots ops fs hs vs μ0 a0 c' L μ' a:=
 ⟨S.size,S.dfs,fun j o d ho hl hd=>(S.w j o d ho hl hd).mono (cut_mono hle (by omega)),S.old⟩
theorem Slots.put (X:TextOk ops) (hd:dstsIn (fs 0).n ops=true) (S:Slots ops fs hs vs μ0 a0 c L μ a) {k:Nat} {o:Oper} (ho:ops[k]? =some o) (hk:L k=false) {v':Value}
 (hv:VRel (cut μ (max (hs (k+1)).size (hs c).size)) (vs k) v'):Slots ops fs hs vs μ0 a0 c (setL L k) μ (a.put o.dst v'):=by
 have hget:∀t,o.dst≠some t→(a.put o.dst v').tmps.getD t undef=a.tmps.getD t undef:=by
  intro t ht
  cases hd:o.dst with
  |none=>rfl
  |some d=>
   rw[hd]at ht
   have hne:d≠t:=fun h=>ht (by rw[h])
   show(a.tmps.setIfInBounds d v').getD t undef=_
   simp only[Array.getD_eq_getD_getElem?,Array.getElem?_setIfInBounds_ne hne]
 refine⟨?_,?_,?_,?_⟩
 ·rw[←S.size];cases o.dst with
  |none=>rfl
  |some d=>exact Array.size_setIfInBounds
 ·rw[←S.dfs];cases o.dst<;>rfl
 ·intro j p d hp hl hdj
  by_cases e:j=k
  ·subst e
   rw[ho]at hp;cases hp
   have hlt:d<a.tmps.size:=by
    rw[S.size]
    unfold dstsIn at hd
    have:=List.all_eq_true.1 hd o (List.mem_of_getElem? ho)
    rw[hdj]at this
    simpa using this
   have:(a.put o.dst v').tmps.getD d undef=v':=by
    rw[hdj]
    show(a.tmps.setIfInBounds d v').getD d undef=v'
    simp[hlt]
   rw[this];exact hv
  ·rw[setL_ne e]at hl
   rw[hget d (X.one k j o p d ho hp (fun h=>e h.symm) hdj)]
   exact S.w j p d hp hl hdj
 ·intro d hno
  rw[hget d (hno k o ho (setL_self _ _))]
  exact S.old d fun j p hp hl=>hno j p hp (setL_of hl)
theorem Slots.skip (S:Slots ops fs hs vs μ0 a0 c L μ a) {k:Nat} (hk:∀o,ops[k]? =some o→o.dst=none):Slots ops fs hs vs μ0 a0 c (setL L k) μ a:=by
 refine⟨S.size,S.dfs,fun j o d ho hl hd=>?_,fun d hno=>S.old d fun j p hp hl=>hno j p hp (setL_of hl)⟩
 by_cases e:j=k
 ·subst e;rw[hk o ho]at hd;cases hd
 ·rw[setL_ne e]at hl;exact S.w j o d ho hl hd
theorem Slots.look (X:TextOk ops) (T:Trace E base cf rf ops ops fs hs vs lg) (K:TOk ops hs lg) (hdst:dstsIn (fs 0).n ops=true) (hμ:μ0.le μ) (hdom:∀b m,μ0 b=some m→b<(hs 0).size)
 (S:Slots ops fs hs vs μ0 a0 c L μ a) (hC:Closed ops L) {k:Nat} {o:Oper} (ho:ops[k]? =some o) (hk:L k=false) (hr:Ready ops L o) {t:Tmp} (ht:t∈looks ops o):
 VRel (cut μ (max (hs k).size (hs c).size)) ((fs k).get t) (a.tmps.getD t undef):=by
 have hkN:k<ops.length:=(List.getElem?_eq_some_iff.1 ho).1
 have h00:=K.mono (i:=0) (j:=k) (Nat.zero_le _) (by omega)
 have hinit:(∀(j:Nat) (p:Oper),j<k→ops[j]? =some p→p.dst≠some t)→(∀(j:Nat) (p:Oper),ops[j]? =some p→L j=true→p.dst≠some t)→VRel (cut μ (max (hs k).size (hs c).size)) ((fs k).get t) (a.tmps.getD t undef):=by
  intro h1 h2
  rw[T.fs_old t k (by omega) fun j p hj hp=>h1 j p hj hp]
  exact(S.old t h2).mono (le_cut hμ fun b m hb=>by have:=hdom b m hb;omega)
 by_cases hex:∃j p,ops[j]? =some p∧p.dst=some t∧j≠k
 ·obtain⟨j,p,hp,hd,hne⟩:=hex
  have hord:=X.look k j o p t ho hp (fun h=>hne h.symm) hd ht
  have huniq:∀(i:Nat) (q:Oper),ops[i]? =some q→q.dst=some t→i=j:=fun i q hq hqd=>by
   by_cases e:i=j
   ·exact e
   ·exact absurd hqd (X.one i j q p t hq hp e hd)
  rcases Nat.lt_trichotomy j k with hlt|he|hgt
  ·have hl:=ordered_listed X hC hlt ho hr (.inr hord)
   have htn:t<(fs 0).n:=by
    unfold dstsIn at hdst
    have:=List.all_eq_true.1 hdst p (List.mem_of_getElem? hp)
    rw[hd]at this
    simpa using this
   rw[T.fs_new X htn hp hd k (by omega) hlt]
   exact(S.w j p t hp hl hd).mono (cut_mono μ.le_refl (by have:=K.mono (i:=j+1) (j:=k) hlt (by omega);omega))
  ·exact absurd he hne
  ·have hnl:L j=false:=by
    cases hl:L j with
    |false=>rfl
    |true=>
     have:=ordered_listed X hC hgt hp (hC j p hp hl) (.inl hord)
     rw[hk]at this;cases this
   refine hinit (fun i q hi hq hqd=>?_) (fun i q hq hl hqd=>?_)
   ·have:=huniq i q hq hqd;omega
   ·have:=huniq i q hq hqd
    subst this
    rw[hnl]at hl;cases hl
 ·refine hinit (fun i q hi hq hqd=>hex ⟨i,q,hq,hqd,by omega⟩) (fun i q hq hl hqd=>?_)
  by_cases e:i=k
  ·subst e;rw[hk]at hl;cases hl
  ·exact hex ⟨i,q,hq,hqd,e⟩
structure Inv (E:Env) (base B:Nat) (ops:List Oper) (fs:Nat→AF) (hs:Nat→AHeap) (vs:Nat→Value) (lg:Nat→LogE) (μ0:Emb) (w0:World) (a0:Act) (L:Nat→Bool) (a:Act) (w:World):Prop where
 ex:∃c μ,Core E base B ops hs lg μ0 w0 c L μ w∧Slots ops fs hs vs μ0 a0 c L μ a
theorem closed_set {k:Nat} {o:Oper} (hC:Closed ops L) (ho:ops[k]? =some o) (hr:Ready ops L o):Closed ops (setL L k):=by
 intro j p hp hl e he hb
 by_cases hjk:j=k
 ·subst hjk
  rw[ho]at hp;cases hp
  exact setL_of (hr e he hb)
 ·rw[setL_ne hjk]at hl
  exact setL_of (hC j p hp hl e he hb)
theorem draw_op (hE:EnvOk P E) (hcf:CallOk P E base B cf) (hrf:RoundOk P E base B rf) (hcF:CallFun E cf) (hrF:RoundFun rf) {F:Fence} (hF:Wide F) {n:Nat} {ops:Array Oper}
 (X:TextOk ops.toList) (T:Trace E base cf rf ops.toList ops.toList fs hs vs lg) (K:TOk ops.toList hs lg) (hdst:dstsIn (fs 0).n ops.toList=true) (H0:HRel E base B μ0 (hs 0) w0)
 (I:Inv E base B ops.toList fs hs vs lg μ0 w0 a0 L a w) (hC:Closed ops.toList L) {k:Nat} {o:Oper} (ho:ops[k]? =some o) (hk:L k=false) (hr:Ready ops.toList L o)
 {next:Act→World→Prop} {Q:Exit→Act→World→Prop} (hn:∀a' w',Inv E base B ops.toList fs hs vs lg μ0 w0 a0 (setL L k) a' w'→next a' w'):
 if Region.wanted o (yielded ops a.tmps)=true then o.wpIn F n P a w next Q else(∀f,o.about P w a.eval=some f→F.fn f)∧next (a.put o.dst undef) w:=by
 obtain⟨c,μ,C,S⟩:=I.ex
 have ho':ops.toList[k]? =some o:=by simpa using ho
 have hkN:k<ops.toList.length:=(List.getElem?_eq_some_iff.1 ho').1
 have hB:B≤w0.heap.size:=H0.low
 have hb0:base≤(hs 0).size:=H0.bsz
 have hg0:∀s,(hs 0).size≤s→GlobOk E (cut μ s):=fun s hs' g hgl=>by
  obtain⟨m,q1,q2⟩:=H0.glob g hgl
  exact⟨m,cut_some.2 ⟨by have:=H0.dom g m q1;omega,C.le0 _ _ q1⟩,q2⟩
 have h0k:=K.mono (i:=0) (j:=k) (Nat.zero_le _) (by omega)
 have hf:FRel (cut μ (max (hs k).size (hs c).size)) ((fs k).only (looks ops.toList o)) (onlyA a (looks ops.toList o)).tmps:=
  only_rel (by rw[S.size,T.fs_n k (by omega)]) fun t ht=>S.look X T K hdst C.le0 H0.dom hC ho' hk hr ht
 have hgk:GlobOk E (cut μ (max (hs k).size (hs c).size)):=hg0 _ (by omega)
 have hwant:Region.wanted o (yielded ops a.tmps)=wanted ops.toList o (fs k):=by
  rw[←only_yielded,wanted_rel hf o,only_wanted]
 have hkc:(hs k).size≤(hs (k+1)).size:=K.step hkN
 rcases T.run k o ho' with⟨hw,hrun⟩|⟨hw,hv,hh,hlg⟩
 ·rw[hwant,if_pos hw]
  have hsel:=noSelect hrun
  have hdef:=noDefer hrun
  have hrun':runOp E base cf rf o ((fs k).only (looks ops.toList o)) (hs k)=some ⟨vs k,hs (k+1),lg k⟩:=by rw[runOp_same (only_same _ _ _)];exact hrun
  have hex:execOp a.eval o=execOp (onlyA a (looks ops.toList o)).eval o:=only_exec hsel
  -- an operation that turns no memory
  have quiet:∀v',VRel (cut μ (max (hs k).size (hs c).size)) (vs k) v'→(∀h h',lg k≠ .eff h h')→(∀h h',lg k≠ .alloc h h')→next (a.put o.dst v') w:=by
   intro v' hv h1 h2
   exact hn _ _ ⟨c,μ,C.setQuiet h1 h2,S.put X hdst ho' hk (hv.mono (cut_mono μ.le_refl (by omega)))⟩
  rcases runOp_cases hrun' with⟨hp,hh,hlg⟩|⟨q,hq,hv,hh,hlg⟩|⟨md,hd,hal,hv,hh,hlg⟩|hlg
  ·-- plain
   obtain⟨v',q1,q2⟩:=apure_sim hE hgk hf hp
   refine⟨fun _ _=>hF.fn _,?_⟩
   rw[Oper.semAt_eq _ _ _ hdef,hex,q2 w]
   exact quiet v' q1 (fun h h' e=>by simp only at hlg;rw[hlg]at e;cases e) (fun h h' e=>by simp only at hlg;rw[hlg]at e;cases e)
  ·-- a read
   simp only at hv hh hlg
   have hqk:q.blk<(hs k).size:=by
    rcases K.kind k hkN with⟨h1,_⟩|⟨q',h1,_,h3⟩|⟨md,h1,_⟩|⟨h1,_⟩<;>rw[hlg]at h1<;>cases h1
    exact h3
   -- who may come between
   have hstay:∀i,i<ops.toList.length→i≠k→lg i= .alloc (hs i) (hs (i+1))→stayRQ (hs i) q=true:=by
    intro i hi hne hia
    rcases Nat.lt_or_ge i k with h1|h1
    ·have hp:=K.pass i k h1 hkN
     rw[hia,hlg]at hp
     exact hp
    ·have hp:=K.pass k i (by omega) hi
     rw[hia,hlg]at hp
     exact hp
   have hsame:∀i,i<ops.toList.length→i≠k→(lg i= .eff (hs i) (hs (i+1))∧(c≤i∧i<k∨k<i∧i<c))→sameRQ (hs i) (hs (i+1)) q=true:=by
    intro i hi hne hcase
    ·obtain⟨hie,hbtw⟩:=hcase
     have hL:=C.effs i _ _ hi hie
     have hio:=List.getElem?_eq_getElem (l:=ops.toList) (i:=i) hi
     rcases hbtw with⟨h1,h2⟩|⟨h1,h2⟩
     ·have hp:=K.pass i k h2 hkN
      rw[hie,hlg]at hp
      simp only[mayPass,Bool.or_eq_true]at hp
      rcases hp with hp|hp
      ·have:=hL.1 (ordered_listed X hC h2 ho' hr (.inl hp));omega
      ·exact hp
     ·have hp:=K.pass k i h1 hi
      rw[hie,hlg]at hp
      simp only[mayPass,Bool.or_eq_true]at hp
      rcases hp with hp|hp
      ·have hli:=hL.2 h2
       have:=ordered_listed X hC h1 hio (hC i _ hio hli) (.inl hp)
       rw[hk]at this;cases this
      ·exact hp
   obtain⟨v',q1,q2⟩:=aread_loc (base:=base) (w:=w) hE hf hgk (v:=vs k) hq (fun m hm=>by
    have hmμ:=(cut_some.1 hm).2
    by_cases hbc:q.blk<(hs c).size
    ·refine⟨hs c,?_,?_⟩
     ·rcases Nat.le_total k c with hkc2|hkc2
      ·rw[K.chain hqk hkc2 C.cN fun i h1 h2=>⟨fun h3=>?_,fun h3=>?_⟩];·exact hv
       ·have hne:i≠k:=fun e=>by
         subst e;rw[hlg]at h3;cases h3
        exact hsame i (by have:=C.cN;omega) hne ⟨h3,.inr ⟨by omega,h2⟩⟩
       ·have hne:i≠k:=fun e=>by
         subst e;rw[hlg]at h3;cases h3
        exact hstay i (by have:=C.cN;omega) hne h3
      ·rw[←K.chain hbc hkc2 (by omega) fun i h1 h2=>⟨fun h3=>?_,fun h3=>?_⟩];·exact hv
       ·exact hsame i (by omega) (by omega) ⟨h3,.inl ⟨h1,h2⟩⟩
       ·exact hstay i (by omega) (by omega) h3
     ·obtain⟨p,p',k1,k2,k3⟩:=C.rel.obj q.blk m (cut_some.2 ⟨hbc,hmμ⟩)
      exact⟨p,p',k1,k2,k3.mono (cut_mono μ.le_refl (by omega)) id⟩
    ·obtain⟨j,md,o',k1,k2,k3,k4,k5,k6,k7⟩:=C.pend q.blk m (by omega) hmμ
     have hjk:j<k:=by
      rcases Nat.lt_or_ge j k with h|h
      ·exact h
      ·have:=K.mono h (by have:=k3.1;omega);omega
     have hs1:=k3.size
     refine⟨hs (j+1),?_,md.obj q.blk,o',?_,k5,?_⟩
     ·rw[←K.chain (lo:=j+1) (hi:=k) (by omega) hjk (by omega) fun i h1 h2=>⟨fun h3=>?_,fun h3=>?_⟩];·exact hv
      ·exact hsame i (by omega) (by omega) ⟨h3,.inl ⟨by omega,h2⟩⟩
      ·exact hstay i (by omega) (by omega) h3
     ·rw[k3.2.2,AHeap.get_push,if_pos k4,←k4]
     ·exact k7 _ _ _ (cut_mono μ.le_refl (by omega)))
   refine⟨fun _ _=>hF.fn _,?_⟩
   rw[Oper.semAt_eq _ _ _ hdef,hex,q2]
   exact quiet v' q1 (fun h h' e=>by rw[hlg]at e;cases e) (fun h h' e=>by rw[hlg]at e;cases e)
  ·-- a block is made
   simp only at hv hh hlg
   obtain⟨o',k',hvf,A⟩:=aalloc_sim hE hgk hf hal
   have ha:Al ops.toList hs lg k md:=⟨hkN,hlg,hh⟩
   refine⟨fun _ _=>hF.fn _,?_⟩
   rw[Oper.semAt_eq _ _ _ hdef,hex,A.run w]
   obtain⟨hle,C'⟩:=C.alloc K hB hb0 ha hk (Alc.mk' w o') (n:=k') fun μ' h b' hμ=>A.obj μ' h base b' _ hμ
   refine hn _ _ ⟨c,_,C',(S.mono hle (Nat.le_refl _)).put X hdst ho' hk ?_⟩
   rw[hv]
   refine A.val _ _ _ (cut_some.2 ⟨?_,upd_self _ _ _⟩)
   have:=ha.size;omega
  ·-- memory is turned
   have hkk:lg k= .eff (hs k) (hs (k+1)):=hlg
   have hck:c≤k:=by
    have:=C.effs k _ _ hkN hkk
    rw[hk]at this
    rcases Nat.lt_or_ge k c with h|h
    ·exact absurd (this.2 h) (by simp)
    ·exact h
   have hbetween:∀i,c≤i→i<k→∀h h',lg i≠ .eff h h':=by
    intro i h1 h2 g g' e
    have hL:=C.effs i _ _ (by omega) e
    have hp:=K.pass i k h2 hkN
    rw[e,hkk]at hp
    simp only[mayPass]at hp
    have:=hL.1 (ordered_listed X hC h2 ho' hr (.inl hp))
    omega
   have Ck:=C.goTo K hB hb0 (k - c) (by omega) (fun i h1 h2=>hbetween i h1 (by omega))
   rw[show c+(k - c)=k by omega]at Ck
   have hmx:max (hs k).size (hs c).size=(hs k).size:=Nat.max_eq_left (K.mono hck (by omega))
   rw[hmx]at hf
   have Sk:Slots ops.toList fs hs vs μ0 a0 k L μ a:=S.mono μ.le_refl (K.mono hck (by omega))
   refine op_simA hE hcf hrf hcF hrF hF hf Ck.rel hrun' hex fun μ1 v' w1 q1 q2=>?_
   obtain⟨μ',e1,e2,C'⟩:=Ck.eff K hkN hkk q2
   refine hn _ _ ⟨k+1,μ',C',(Sk.mono e1 (K.step hkN)).put X hdst ho' hk ?_⟩
   rw[Nat.max_self,e2];exact q1
 ·rw[hwant,if_neg (by rw[hw];simp)]
  refine⟨fun _ _=>hF.fn _,hn _ _ ⟨c,μ,C.setQuiet (fun h h' e=>by rw[hlg]at e;cases e) (fun h h' e=>by rw[hlg]at e;cases e),S.put X hdst ho' hk ?_⟩⟩
  rw[hv];exact .undef _
end
end Go.M
namespace Go.M
open Go
theorem tOk_of {E:Env} {base:Nat} {cf:CallF} {rf:RoundF} {all ops:List Oper} {fs:Nat→AF} {hs:Nat→AHeap} {vs:Nat→Value} {lg:Nat→LogE} (T:Trace E base cf rf all ops fs hs vs lg) {logs:List LogE}
 (hl:∀j,j<ops.length→logs[j]? =some (lg j)) (hp:allPass (befores ops []) 0 logs=true):TOk ops hs lg:=by
 obtain⟨k1,k2⟩:=allPass_get hp
 refine⟨fun j hj=>?_,fun i j hij hj=>?_⟩
 ·have hg:=k1 j _ (hl j hj)
  rcases T.run j _ (List.getElem?_eq_getElem hj)with⟨_,hr⟩|⟨_,_,h1,h2⟩
  ·rcases runOp_cases hr with⟨_,h1,h2⟩|⟨q,_,_,h1,h2⟩|⟨md,hd,_,_,h1,h2⟩|h2
   ·exact .inl ⟨h2,h1⟩
   ·simp only at h1 h2
    rw[h2]at hg
    exact .inr (.inl ⟨q,h2,h1,by simpa[growsL]using hg⟩)
   ·exact .inr (.inr (.inl ⟨md,h2,h1⟩))
   ·simp only at h2
    rw[h2]at hg
    exact .inr (.inr (.inr ⟨h2,by simpa[growsL]using hg⟩))
  ·exact .inl ⟨h2,h1⟩
 ·have:=k2 i j _ _ hij (hl i (by omega)) (hl j hj)
  simpa using this
def lis (listed:Array Bool):Nat→Bool:=fun j=>listed.getD j false
theorem lis_set {listed:Array Bool} {i:Nat} (hi:i<listed.size):lis (listed.setIfInBounds i true)=setL (lis listed) i:=by
 funext j
 unfold lis setL
 by_cases e:j=i
 ·subst e;rw[if_pos rfl];simp[hi]
 ·rw[if_neg e]
  simp only[Array.getD_eq_getD_getElem?,Array.getElem?_setIfInBounds_ne (fun h=>e h.symm)]
theorem mem_ready {ops:Array Oper} {listed:Array Bool} {i:Nat} (hi:i∈Region.ready .any ops listed) (hsz:listed.size=ops.size):
 ∃o,ops[i]? =some o∧i<listed.size∧lis listed i=false∧Ready ops.toList (lis listed) o:=by
 unfold Region.ready at hi
 simp only[List.mem_filter,List.mem_range,Bool.and_eq_true,Bool.not_eq_true']at hi
 obtain⟨h1,h2,h3⟩:=hi
 have h4:=Array.getElem?_eq_getElem h1
 rw[h4]at h3
 simp only[Option.map_some,Option.getD_some,Array.all_eq_true_iff_forall_mem,Bool.or_eq_true,Bool.not_eq_true']at h3
 refine⟨_,h4,by omega,?_,fun e he hb=>?_⟩
 ·have hlt:i<listed.size:=by omega
  unfold lis
  simp only[Array.getD,hlt,dif_pos]at h2 ⊢
  exact h2
 ·rcases h3 e (by simpa using he)with h5|h5
  ·rw[hb]at h5;cases h5
  ·exact h5
theorem ready_nil {ops:Array Oper} {listed:Array Bool} (X:TextOk ops.toList) (hsz:listed.size=ops.size) (h:Region.ready .any ops listed=[]):∀j,j<ops.size→lis listed j=true:=by
 intro j
 induction j using Nat.strongRecOn with
 |ind j ih=>
  intro hj
  cases hl:lis listed j with
  |true=>rfl
  |false=>
   have hm:j∈Region.ready .any ops listed:=by
    unfold Region.ready
    simp only[List.mem_filter,List.mem_range,Bool.and_eq_true,Bool.not_eq_true']
    have h4:=Array.getElem?_eq_getElem hj
    refine⟨hj,?_,?_⟩
    ·have hlt:j<listed.size:=by omega
     unfold lis at hl
     simp only[Array.getD,hlt,dif_pos]at hl ⊢
     exact hl
    ·rw[h4]
     simp only[Option.map_some,Option.getD_some,Array.all_eq_true_iff_forall_mem,Bool.or_eq_true,Bool.not_eq_true']
     intro e he
     cases hb:Region.binds .any e with
     |false=>exact .inl rfl
     |true=>
      have:=X.edge j _ (by rw[Array.getElem?_toList];exact h4) e (by simpa using he) hb
      exact .inr (ih e.on this (by omega))
   rw[h]at hm;cases hm
section
variable {P:Program} {E:Env} {base B:Nat} {cf:CallF} {rf:RoundF} {fs:Nat→AF} {hs:Nat→AHeap} {vs:Nat→Value} {lg:Nat→LogE}
variable {μ0:Emb} {w0:World} {a0:Act}
theorem draw_all (hE:EnvOk P E) (hcf:CallOk P E base B cf) (hrf:RoundOk P E base B rf) (hcF:CallFun E cf) (hrF:RoundFun rf) {F:Fence} (hF:Wide F) {n:Nat} {ops:Array Oper}
 (X:TextOk ops.toList) (T:Trace E base cf rf ops.toList ops.toList fs hs vs lg) (K:TOk ops.toList hs lg) (hdst:dstsIn (fs 0).n ops.toList=true) (H0:HRel E base B μ0 (hs 0) w0)
 {Q:Exit→Act→World→Prop} (hQ:∀L a w,(∀j,j<ops.size→L j=true)→Inv E base B ops.toList fs hs vs lg μ0 w0 a0 L a w→Q .normal a w):
 ∀(fuel:Nat) (listed:Array Bool) (a:Act) (w:World),listed.size=ops.size→listed.toList.count false≤fuel→Closed ops.toList (lis listed)→Inv E base B ops.toList fs hs vs lg μ0 w0 a0 (lis listed) a w→
  wpAnyIn F n P .any ops Q fuel listed a w:=by
 intro fuel
 induction fuel with
 |zero=>
  intro listed a w hsz hcnt hC I
  have hnil:Region.ready .any ops listed=[]:=by
   apply List.eq_nil_iff_forall_not_mem.2
   intro i hi
   obtain⟨o,_,h2,h3,_⟩:=mem_ready hi hsz
   have hmem:false∈listed.toList:=by
    unfold lis at h3
    simp only[Array.getD,h2,dif_pos]at h3
    rw[←h3];exact List.mem_of_getElem? (by rw[Array.getElem?_toList];exact Array.getElem?_eq_getElem h2)
   have:=List.count_pos_iff.2 hmem
   omega
  exact⟨hnil,hQ _ _ _ (ready_nil X hsz hnil) I⟩
 |succ fuel ih=>
  intro listed a w hsz hcnt hC I
  refine⟨fun hnil=>hQ _ _ _ (ready_nil X hsz hnil) I,fun i hi=>?_⟩
  obtain⟨o,h1,h2,h3,h4⟩:=mem_ready hi hsz
  have h1':ops.toList[i]? =some o:=by simpa using h1
  refine wpOpIn_step h1 fun K' hK'=>?_
  refine draw_op hE hcf hrf hcF hrF hF X T K hdst H0 I hC h1 h3 h4 fun a' w' I'=>hK' _ _ (ih _ _ _ ?_ ?_ ?_ ?_)
  ·rw[Array.size_setIfInBounds];exact hsz
  ·rw[Array.toList_setIfInBounds,List.count_set (by simpa using h2)]
   have hget:listed.toList[i]'(by simpa using h2)=false:=by
    unfold lis at h3
    simp only[Array.getD,h2,dif_pos]at h3
    simpa using h3
   have hmem:false∈listed.toList:=by rw[←hget];exact List.getElem_mem _
   have hpos:=List.count_pos_iff.2 hmem
   rw[hget]
   have e1:(if(true==false)=true then 1 else 0)=0:=rfl
   have e2:(if(false==false)=true then 1 else 0)=1:=rfl
   omega
  ·rw[lis_set h2];exact closed_set hC h1' h4
  ·rw[lis_set h2];exact I'
theorem drawSim (hE:EnvOk P E) (hm:P.follows .mixedOrders=true):DrawSim P E base B:=by
 intro cf rf hcf hrf hcF hrF ops f h f' h' logs hst hdst hrun hpass μ a w hf H F n id Q hF hQ
 obtain⟨fs,hs,vs,lg,T,e1,e2,e3,e4,e5⟩:=trace_of hrun
 have X:=textOk hst
 have K:=tOk_of T e5 hpass
 refine wpIn_region_any hm ?_
 have H0:HRel E base B μ (hs 0) {w with drawn:=w.drawn+1}:=by rw[e2];exact H.congr rfl
 have hls:∀j,lis (Array.replicate ops.size false) j=false:=by
  intro j
  unfold lis
  by_cases hj:j<ops.size
  ·simp[hj]
  ·simp[hj]
 have hcut:cut μ (hs 0).size=μ:=by
  funext b
  unfold cut
  split
  ·rfl
  ·cases hb:μ b with
   |none=>rfl
   |some m=>have:=H0.dom b m hb;omega
 have I0:Inv E base B ops.toList fs hs vs lg μ {w with drawn:=w.drawn+1} a (lis (Array.replicate ops.size false)) a {w with drawn:=w.drawn+1}:=by
  refine⟨0,μ,⟨Nat.zero_le _,?_,by rw[hcut];exact H0,μ.le_refl,.refl _ _ _,?_,fun _ _ _=>rfl,?_,?_,?_,?_⟩,⟨?_,rfl,?_,?_⟩⟩
  ·intro j h h' _ _;rw[hls];simp
  ·intro b m h0 h1;rw[h0]at h1;cases h1
  ·intro j md hj;omega
  ·intro j md _ _ hl;rw[hls]at hl;cases hl
  ·intro b m hb hm;have:=H0.dom b m hm;omega
  ·intro b1 b2 m1 m2 hb1 h1;have:=H0.dom b1 m1 h1;omega
  ·rw[e1];exact hf.n.symm
  ·intro j o d _ hl;rw[hls]at hl;cases hl
  ·intro d _;rw[e1];exact hf.get d
 refine draw_all hE hcf hrf hcF hrF hF X T K (by rw[e1];exact hdst) H0 (a0:=a) ?_ ops.size _ a _ (by simp) ?_ ?_ I0
 ·intro L a' w' hall I
  obtain⟨c,μ',C,S⟩:=I.ex
  have hlen:ops.toList.length=ops.size:=by simp
  have Cn:=C.goTo K H0.low H0.bsz (ops.toList.length - c) (by have:=C.cN;omega) (fun i h1 h2 g g' hl=>by
   have h3:i<ops.toList.length:=by have:=C.cN;omega
   have:=(C.effs i _ _ h3 hl).1 (hall i (by omega))
   omega)
  have hcN:=C.cN
  rw[show c+(ops.toList.length - c)=ops.toList.length by omega]at Cn
  have hle:μ.le (cut μ' (hs ops.toList.length).size):=le_cut Cn.le0 fun b m hb=>by
   have h1:=H0.dom b m hb
   have h2:=K.mono (i:=0) (j:=ops.toList.length) (Nat.zero_le _) (Nat.le_refl _)
   omega
  have St:Step E base B μ (hs 0) {w with drawn:=w.drawn+1} (cut μ' (hs ops.toList.length).size) (hs ops.toList.length) w':=
   ⟨Cn.rel,Cn.grow,hle,fun b m h0 h1=>Cn.new b m h0 (cut_some.1 h1).2,Cn.unt,K.mono (Nat.zero_le _) (Nat.le_refl _)⟩
  rw[e2,e4]at St
  refine hQ _ a' w' ?_ S.dfs ((Step.drawn H _).trans St)
  rw[←e3]
  refine⟨by rw[T.fs_n _ (Nat.le_refl _),S.size],fun t=>?_⟩
  by_cases hex:∃(j:Nat) (o:Oper),ops.toList[j]? =some o∧o.dst=some t
  ·obtain⟨j,o,ho,hd⟩:=hex
   have hj:j<ops.toList.length:=(List.getElem?_eq_some_iff.1 ho).1
   have htn:t<(fs 0).n:=by
    rw[e1]
    unfold dstsIn at hdst
    have:=List.all_eq_true.1 hdst o (List.mem_of_getElem? ho)
    rw[hd]at this
    simpa using this
   rw[T.fs_new X htn ho hd _ (Nat.le_refl _) hj]
   refine(S.w j o t ho (hall j (by omega)) hd).mono ?_
   rw[←e4]
   exact cut_mono μ'.le_refl (by
    have h1:=K.mono (i:=j+1) (j:=ops.toList.length) (by omega) (Nat.le_refl _)
    have h2:=K.mono (i:=c) (j:=ops.toList.length) C.cN (Nat.le_refl _)
    omega)
  ·rw[T.fs_old t _ (Nat.le_refl _) fun j o _ ho hd=>hex ⟨j,o,ho,hd⟩,←e4]
   exact(S.old t fun j o ho _ hd=>hex ⟨j,o,ho,hd⟩).mono hle
 ·simp
 ·intro j o ho hl;rw[hls]at hl;cases hl
end
end Go.M
namespace Go.M
open Go
def envOf (P:Program) (orc:FuncId→List Value→AHeap→Option (Value×AHeap)):Env where
 desc:=fun t=>P.underlying t
 size:=fun t=>(P.info? t).map (·.size)
 bytes:=fun t=>(P.info? t).map (·.bytes)
 zero:=fun t=>(P.info? t).bind fun i=>i.zero.bind fun z=>grd (plainV z) (some z)
 eqOk:=fun t=> !P.eqGuardType P.depth t&& !P.stoodInHeld t
 func:=fun g=>(P.funcs[g]?).bind fun fn=>grd (fn.body.isSome&& !(fn.name== "runtime.NumGoroutine")) (some fn)
 tab:=fun _=>none
 still:=fun _=>false
 orc:=fun _=>orc
theorem envOk (P:Program) (orc:FuncId→List Value→AHeap→Option (Value×AHeap)):EnvOk P (envOf P orc):=by
 refine⟨fun t d h=>h,fun t n h=>?_,fun t n h=>?_,fun t z h=>?_,fun t h=>?_,fun f fn h=>?_⟩
 ·simp only[envOf,Option.map_eq_some_iff]at h
  obtain⟨i,h1,h2⟩:=h
  exact⟨i,h1,h2⟩
 ·simp only[envOf,Option.map_eq_some_iff]at h
  obtain⟨i,h1,h2⟩:=h
  exact⟨i,h1,h2⟩
 ·simp only[envOf,Option.bind_eq_some_iff,grd_some,Option.some.injEq]at h
  obtain⟨i,h1,z',h2,h3,rfl⟩:=h
  exact⟨⟨i,h1,h2⟩,h3⟩
 ·simp only[envOf,Bool.and_eq_true,Bool.not_eq_true']at h
  exact h
 ·simp only[envOf,Option.bind_eq_some_iff,grd_some,Option.some.injEq,Bool.and_eq_true,Bool.not_eq_true']at h
  obtain⟨i,h1,⟨h2,h3⟩,rfl⟩:=h
  exact⟨h1,h2,h3⟩
section
variable {P:Program} {E:Env} {base B:Nat}
theorem acall_ok (hE:EnvOk P E) (hO:OrcOk P E base B) (hm:P.follows .mixedOrders=true) (n:Nat):CallOk P E base B (acall E base n):=
 callOk hE hO (codeOk hE hO (drawSim hE hm) n).1
def noOrc:FuncId→List Value→AHeap→Option (Value×AHeap):=fun _ _ _=>none
def h00:AHeap:=⟨.nil,0⟩
def μ00:Emb:=fun _=>none
def gaveTrue:Option (Value×AHeap)→Bool
 |some (.bool b,_)=>b
 |_=>false
theorem gaveTrue_some {x:Option (Value×AHeap)} (h:gaveTrue x=true):∃h',x=some (.bool true,h'):=by
 unfold gaveTrue at h
 split at h
 ·subst h;exact⟨_,rfl⟩
 ·cases h
end
end Go.M
namespace Go.M
open Go Go.ChangeShapes Go.WideShapes Go.ChangeAt Go.RowKit
section
variable {H:Type} {enc:TypeId×Value→H} {P:Program}
theorem trodAll_stays (hl:laidOutB P=true) {W W':World} {sp:Nat→Bool}:∀{ts:List TypeId} {vs:List Value} {ds:List (DataW H)} {ps:List MemPlace},(∀t∈ts,P.readableRec t=true∧t<P.types.size)→
 DataW.TrodAll enc P W 0 (fun _=>true) true ts vs ds ps→(∀p∈ps,W.sameAt W' p)→(∀p∈ps,sp p.block=true)→DataW.TrodAll enc P W' 0 sp true ts vs ds ps
 |[],[],[],ps,_,h,_,_=>h
 |t::ts,v::vs,d::ds,ps,hr,h,hs,hp=>by
  obtain⟨p,q,h1,h2,rfl⟩:=h
  refine⟨p,q,?_,?_,rfl⟩
  ·exact WideElems.Trod_stays hl (hr t List.mem_cons_self).1 (hr t List.mem_cons_self).2 h1 (fun x hx=>hs x (List.mem_append_left _ hx)) (fun x hx=>hp x (List.mem_append_left _ hx))
  ·exact trodAll_stays hl (fun u hu=>hr u (List.mem_cons_of_mem _ hu)) h2 (fun x hx=>hs x (List.mem_append_right _ hx)) (fun x hx=>hp x (List.mem_append_right _ hx))
 |[],[],_::_,_,_,h,_,_=>by simp[DataW.TrodAll]at h
 |[],_::_,_,_,_,h,_,_=>by simp[DataW.TrodAll]at h
 |_::_,[],_,_,_,h,_,_=>by simp[DataW.TrodAll]at h
 |_::_,_::_,[],_,_,h,_,_=>by simp[DataW.TrodAll]at h
theorem trodAll_length {W:World} {base:Nat} {sp:Nat→Bool} {held:Bool}:∀{ts:List TypeId} {vs:List Value} {ds:List (DataW H)} {ps:List MemPlace},DataW.TrodAll enc P W base sp held ts vs ds ps→ds.length=ts.length∧vs.length=ts.length
 |[],[],[],_,_=>⟨rfl,rfl⟩
 |t::ts,v::vs,d::ds,ps,h=>by
  obtain⟨p,q,_,h2,_⟩:=h
  have:=trodAll_length h2
  simp[this.1,this.2]
 |[],[],_::_,_,h=>by simp[DataW.TrodAll]at h
 |[],_::_,_,_,h=>by simp[DataW.TrodAll]at h
 |_::_,[],_,_,h=>by simp[DataW.TrodAll]at h
 |_::_,_::_,[],_,h=>by simp[DataW.TrodAll]at h
theorem post_true {f:Func} {s:ChangeSpec} {apart fresh:Bool} {W W':World} {args:Array Value} {ds gs:List (DataW H)} {before:List MemPlace} {tb:TypeId}
 (hW:DataW.Whole enc P f.params.toList s.vars apart W args.toList ds gs before) (hvars:s.vars=[]) (hres:f.resultTypes= #[tb]) (hb:P.underlying tb=some .bool)
 (hl:laidOutB P=true) (hp:∀t∈f.params.toList,P.readableRec t=true∧t<P.types.size) (hs:s.fn H ds={results:=[.lit (.bool true)],args:=ds}) (hbel:Below W.heap.size W W'):
 s.post enc P f apart fresh false false W args (.bool true) W':=by
 have hW':=hW
 have hlt:∀p∈before,p.block<W.heap.size:=fun p hp=>hW.lt p hp
 have hold:∀p∈before,(fun b=>decide (b<W.heap.size)) p.block=true:=fun p hp=>by simpa using hlt p hp
 obtain⟨p,q,hA,hV,rfl,hz,hn⟩:=hW
 rw[hvars]at hV
 obtain⟨rfl,rfl⟩:=trodVars_none hV
 simp only[List.append_nil]at*
 have hargs:∀sp:Nat→Bool,(∀x∈p,sp x.block=true)→DataW.TrodAll enc P W' 0 sp true f.params.toList args.toList (s.fn H ds).args p:=fun sp hsp=>by
  rw[hs];exact trodAll_stays hl hp hA (fun x hx=>hbel.same (hlt x hx)) hsp
 have hvs:∀sp:Nat→Bool,DataW.TrodVars enc P W' sp s.vars (s.fn H ds).vars []:=fun sp=>by rw[hs,hvars];rfl
 have hr:∀(b:Nat) (sp:Nat→Bool) (hd:Bool),DataW.TrodAll enc P W' b sp hd f.resultTypes.toList ((Value.bool true).resultList f.resultTypes.size) (s.fn H ds).results []:=fun b sp hd=>by
  rw[hs,hres];exact trodAll_mk1 (shut_bool hb true)
 have hok:=ok_one (W':=W') (v:=.bool true) hres rfl (okWide_bool_mk hb true)
 refine⟨ds,[],p,[],p,[],hW',by simpa using hr _ _ _,by simpa using hargs _ hold,by simpa using hvs _,World.keptBut_mono (fun x hx=>⟨hx,?_⟩) (hbel.frame _),fun _=>?_⟩
 ·exact Or.inr (by simpa using hx)
 ·refine⟨hok,_,_,([]++p)++[],⟨[]++p,[],trodAll_append (by simpa using hargs _ (fun _ _=>rfl)) (by simpa using hr _ _ _),by simpa using hvs _,rfl,?_,?_⟩,?_⟩
  ·intro b off hb2
   have hb3:MemPlace.cell b off∈p:=by simpa using hb2
   have:=hlt _ hb3
   rw[hbel.frozen (p:=⟨b,off,none⟩) this]
   exact hz b off (by simpa using hb3)
  ·intro ha
   have:=hn ha
   simpa using this
  ·intro x hx _
   simpa using hx
def kindsB (P:Program):List TypeId→List IntKind→Bool
 |[],[]=>true
 |t::ts,k::ks=>(match P.underlying t with|some (.int k')=>decide (k'=k)|_=>false)&&kindsB P ts ks
 |_,_=>false
def intsB (P:Program) (t:TypeId) (ks:List IntKind):Bool:=
 match P.underlying t,P.cellTypes P.depth t with
 |some (.struct _),some ts=>Nat.beq (P.cellsOf t) ts.length&&kindsB P ts ks
 |_,_=>false
def intsOf:List IntKind→List Int→List Value
 |k::ks,n::ns=>.int k n::intsOf ks ns
 |_,_=>[]
end
end Go.M
