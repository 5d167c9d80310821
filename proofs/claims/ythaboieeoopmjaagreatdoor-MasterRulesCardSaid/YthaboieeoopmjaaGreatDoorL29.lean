/-
  Part 29 of the library that the proof leans on.
-/
import Derived.Test.YthaboieeoopmjaaGreatDoorL28
import Derived.Test.YthaboieeoopmjaaGreatDoorL25
namespace Go.M
open Go Go.Proofs
set_option maxRecDepth 100000
set_option maxHeartbeats 4000000
theorem KJ (w:List MS×List bS) (m:bS):w.2.length≤(c5 w m).2.length∧(c5 w m).1.length=w.1.length:=by
 unfold c5;split
 ·split
  ·exact⟨Nat.le_refl _,rfl⟩
  ·dsimp only;exact⟨by rw[List.length_append];omega,List.length_set⟩
 ·exact⟨Nat.le_refl _,rfl⟩
theorem zK:∀(l:List bS) (w:List MS×List bS),w.2.length≤(l.foldl c5 w).2.length∧(l.foldl c5 w).1.length=w.1.length
 |[],w=>⟨Nat.le_refl _,rfl⟩
 |m::l,w=>by
  obtain⟨h1,h2⟩:=KJ w m;obtain⟨h3,h4⟩:=zK l (c5 w m);exact⟨Nat.le_trans h1 h3,h4.trans h2⟩
theorem GS (n:Int) (w:List MS×List bS) (i:Nat):w.2.length≤(mj n w i).2.length∧(mj n w i).1.length=w.1.length:=by
 unfold mj;split
 ·exact⟨Nat.le_refl _,rfl⟩
 ·dsimp only;exact⟨by rw[List.length_append];omega,List.length_set⟩
theorem KK (n:Int) (r:Nat) (w:List MS×List bS) {i:Nat} (hi:i<w.1.length):(mj n w i).2.length≤(jE n r w i).2.length∧(jE n r w i).1.length=w.1.length:=by
 obtain⟨h1,h2⟩:=GS n w i;by_cases hr:r=30
 ·subst hr;rw[zG hi];obtain⟨h3,h4⟩:=KJ (mj n w i) (Q7 n i);exact⟨h3,h4.trans h2⟩
 ·rw[zH hr];exact⟨Nat.le_refl _,h2⟩
def rk (w:List MS×List bS) (i:Nat):List MS×List bS:=(w.2.take i).foldl c5 (w.1,[])
def jT (n:Int) (r:Nat) (w:List MS×List bS) (i:Nat):List MS×List bS:=(List.range i).foldl (jE n r) (w.2.foldl c5 (w.1,[]))
theorem Jq {w:List MS×List bS} {i:Nat} (h:i<w.2.length):rk w (i+1)=c5 (rk w i) w.2[i]:=by
 unfold rk;rw[gu _ i h,List.foldl_append];rfl
theorem M0 (n:Int) (r:Nat) (w:List MS×List bS):rk w w.2.length=jT n r w 0:=by
 unfold rk jT;rw[List.take_length];rfl
theorem lJ (n:Int) (r:Nat) (w:List MS×List bS) (i:Nat):jT n r w (i+1)=jE n r (jT n r w i) i:=by
 unfold jT;rw[List.range_succ,List.foldl_append];rfl
theorem M4 (n:Int) (r:Nat) (w:List MS×List bS):jT n r w w.1.length=lH n w r:=rfl
theorem B2 (n:Int) (r:Nat) (w:List MS×List bS):∀i,i≤w.1.length→(jT n r w i).1.length=w.1.length
 |0,_=>(zK w.2 (w.1,[])).2
 |i+1,h=>by
  have ih:=B2 n r w i om;rw[lJ];exact(KK n r _ om).2.trans ih
theorem zL (n:Int) (r:Nat) (w:List MS×List bS):∀d i,i+d=w.1.length→(jT n r w i).2.length≤(lH n w r).2.length
 |0,i,h=>by
  obtain rfl:i=w.1.length:=by omega
  exact Nat.le_refl _
 |d+1,i,h=>by
  have ih:=zL n r w d (i+1) om;have hl:=B2 n r w i om;rw[lJ]at ih;have h1:=(GS n (jT n r w i) i).1;have h2:=(KK n r (jT n r w i) (i:=i) om).1;omega
theorem Q9 (n:Int) (r:Nat) (w:List MS×List bS) (i:Nat):(rk w i).2.length≤(lH n w r).2.length:=by
 have h1:=zL n r w w.1.length 0 om;have h2:(rk w i).2.length≤(jT n r w 0).2.length:=by
  show _≤(w.2.foldl c5 (w.1,[])).2.length;have e:w.2.foldl c5 (w.1,[])=(w.2.drop i).foldl c5 (rk w i):=by
   unfold rk;rw[←List.foldl_append,List.take_append_drop]
  rw[e];exact(zK _ _).1
 omega
theorem KL {k:Nat} (hk:k∈[1,2,3,4,5]) {n:Int} (hn:n∈[(1:Int),2,3]) {r:Nat} (hr:r≤40):(j6 k n r).2.length≤1000:=(zJ k n 40 (GR k hk n hn) r hr).1
theorem Us {k:Nat} (hk:k∈[1,2,3,4,5]) {n:Int} (hn:n∈[(1:Int),2,3]) {r:Nat} (hr:r≤40) {m:bS} (hm:m∈(j6 k n r).2):MJ m∧(m.to≤24∨(101≤m.to∧m.to≤100+(k:Int))):=XY ((zJ k n 40 (GR k hk n hn) r hr).2 m hm)
theorem Ra {k:Nat} (hk:k∈[1,2,3,4,5]) {n:Int} (hn:n∈[(1:Int),2,3]) {r:Nat} (hr:r<40):(lH n (j6 k n r) r).2.length≤1000:=by
 rw[←tT];exact KL hk hn hr
theorem XZ {k:Nat} (hk:k∈[1,2,3,4,5]) {n:Int} (hn:n∈[(1:Int),2,3]) {ms:List MS} {said:List bS} (h:oG ms said (j6 k n 40)):
 (ms.filter fun s=>s.p.1.st==2).length=1∧∀s∈ms,∃c,(aN s)[0]? =some c∧c.aq=2∧c.nodes.length=2:=by
 have hg:=MU k hk n hn;rw[←h.1]at hg;unfold Vo at hg;rw[Bool.and_eq_true,decide_eq_true_eq]at hg;obtain⟨h1,h2⟩:=hg;refine⟨?_,fun s hs=>?_⟩
 ·rw[List.filter_map,List.length_map]at h1;exact h1
 ·have h3:=List.all_eq_true.1 h2 (ab s) (List.mem_map_of_mem hs);rw[nv]at h3;have e:aN (ab s)=aN s:=rfl;rw[e]at h3;cases hc:(aN s)[0]? with
  |none=>rw[hc]at h3;cases h3
  |some c=>
   rw[hc]at h3;dsimp only at h3;rw[Bool.and_eq_true,beq_iff_eq,beq_iff_eq]at h3;exact⟨c,rfl,h3.1,h3.2⟩
@[reducible] noncomputable def Vp (s:MS) (m:bS) (P:MS→Prop):TV→Ob→Nat→Prop:=fun r o c=>
 (¬pX s m∧r= .sl 0 [] true∧c=1∧o=bz s)∨(pX s m∧∃s1,P s1∧r= .tk 1∧c=2∧o=[(0,IY {s1 with out:=[]}),(1,.arr 25 true (s1.out.map bu))])
theorem Rb (s:MS) (H:dc s) (m:bS) (YA:MJ m) (BI:m.to>24) (hl:s.out.length<10000):VC E0 8 1 [.ptr 0 0,.agg (bu m)] (bz s) (Vp s m (zz s m)):=by
 have gG:=H.ms;have Ef:∀{m:bS},m.ak≠m.to→pX s m→m.ak≠bF s:=fun h ha e=>h (by rw[e,ha.2.1]);have h5:∀{m:bS},m.kind≤8→pX s m→100<m.ak∧m.ak≤105:=fun h ha=>by have:=ha.2.2 h;omega
 cases YA with
 |QB f t b sl hb h=>
  exact tQ s H _ _ ⟨show(1:Int)≤1 by decide,show(1:Int)≤9 by decide⟩ (Xv f t b sl) fun ha=>VC.mono (tP s H ⟨1,f,t,b,sl,aF,aS,[]⟩ hb om) fun _ _ _ ⟨s',q,e⟩=>⟨s',⟨ha.2.2,.inl ⟨rfl,hb,q⟩⟩,e⟩
 |prom f t b sl vs hv h=>
  exact tQ s H _ _ ⟨show(1:Int)≤2 by decide,show(2:Int)≤9 by decide⟩ (Xy f t b sl vs (by have:=hv.len;omega)) fun ha=>VC.mono (tO s H ⟨2,f,t,b,sl,aF,aS,vs⟩ (h5 (show(2:Int)≤8 by decide) ha) hv om) fun _ _ _ ⟨s',q,e⟩=>⟨s',⟨ha.2.2,.inr (.inl ⟨rfl,hv,q⟩)⟩,e⟩
 |acc f t b sl c hb h=>
  exact tQ s H _ _ ⟨show(1:Int)≤3 by decide,show(3:Int)≤9 by decide⟩ (Xz f t b sl c) fun ha=>VC.mono (wa s H ⟨3,f,t,b,sl,c,aS,[]⟩ hb om) fun _ _ _ ⟨s',q,e⟩=>⟨s',⟨ha.2.2,.inr (.inr (.inl ⟨rfl,hb,q⟩))⟩,e⟩
 |abi f t b sl h=>
  exact tQ s H _ _ ⟨show(1:Int)≤4 by decide,show(4:Int)≤9 by decide⟩ (Xw f t b sl) fun ha=>VC.mono (ri s H ⟨4,f,t,b,sl,aF,aS,[]⟩ (h5 (show(4:Int)≤8 by decide) ha) om) fun _ _ _ ⟨s',q,e⟩=>⟨s',⟨ha.2.2,.inr (.inr (.inr (.inl ⟨rfl,q⟩)))⟩,e⟩
 |abj f t sl c h=>
  exact tQ s H _ _ ⟨show(1:Int)≤5 by decide,show(5:Int)≤9 by decide⟩ (XA f t sl c) fun ha=>by
   have hc:0≤c.aq:=by
    have:=GA ha.1;simp[bL,Ax]at this;exact pV this.2
   exact VC.mono (v7 s H ⟨5,f,t,0,sl,c,aS,[]⟩ hc om) fun _ _ _ ⟨s',q,e⟩=>⟨s',⟨ha.2.2,.inr (.inr (.inr (.inr (.inl ⟨rfl,hc,q⟩))))⟩,e⟩
 |abk f t b sl h=>
  exact tQ s H _ _ ⟨show(1:Int)≤6 by decide,show(6:Int)≤9 by decide⟩ (Xx f t b sl) fun ha=>VC.mono (MG s H ⟨6,f,t,b,sl,aF,aS,[]⟩ (Ef h ha) om) fun _ _ _ e=>⟨_,⟨ha.2.2,.inr (.inr (.inr (.inr (.inr (.inl ⟨rfl,Ef h ha,rfl⟩)))))⟩,e⟩
 |want f t sl h=>
  exact tQ s H _ _ ⟨show(1:Int)≤7 by decide,show(7:Int)≤9 by decide⟩ (XB f t sl) fun ha=>by
   have hs:0≤sl∧sl≤512:=by
    have:=GA ha.1;simp[bL,lA]at this;exact this
   exact VC.mono (MH s H ⟨7,f,t,0,sl,aF,aS,[]⟩ (Ef h ha) hs om) fun _ _ _ e=>⟨_,⟨ha.2.2,.inr (.inr (.inr (.inr (.inr (.inr (.inl ⟨rfl,Ef h ha,rfl⟩))))))⟩,e⟩
 |abl f t b h=>
  exact tQ s H _ _ ⟨show(1:Int)≤8 by decide,show(8:Int)≤9 by decide⟩ (XC f t b) fun ha=>VC.mono (v8 s H ⟨8,f,t,b,0,aF,aS,[]⟩) fun _ _ _ e=>⟨_,⟨ha.2.2,.inr (.inr (.inr (.inr (.inr (.inr (.inr (.inl ⟨rfl,rfl⟩)))))))⟩,e⟩
 |Aw f t c h=>exact absurd BI (by show¬t>24;omega)
theorem Ut (s:MS) (H:dc s) (f t:Int) (c:b8) (hl:s.out.length<10000):VC E0 8 1 [.ptr 0 0,.agg (bu ⟨9,f,t,0,0,c,aS,[]⟩)] (bz s) (Vp s ⟨9,f,t,0,0,c,aS,[]⟩ (zz s ⟨9,f,t,0,0,c,aS,[]⟩)):=
 tQ s H _ _ ⟨show(1:Int)≤9 by decide,show(9:Int)≤9 by decide⟩ (XD f t c) fun ha=>VC.mono (Gw s H ⟨9,f,t,0,0,c,aS,[]⟩ om) fun _ _ _ ⟨s',q,e⟩=>⟨s',⟨ha.2.2,.inr (.inr (.inr (.inr (.inr (.inr (.inr (.inr ⟨rfl,q⟩)))))))⟩,e⟩
end Go.M
