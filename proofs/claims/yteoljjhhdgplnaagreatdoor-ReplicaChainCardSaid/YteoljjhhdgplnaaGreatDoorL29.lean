/-
  Part 29 of the library that the proof leans on.
-/
import Derived.Test.YteoljjhhdgplnaaGreatDoorL27
import Derived.Test.YteoljjhhdgplnaaGreatDoorL23
import Derived.Test.YteoljjhhdgplnaaGreatDoorL12
import Derived.Test.YteoljjhhdgplnaaGreatDoorL28
import Derived.Test.YteoljjhhdgplnaaGreatDoorL18
import Derived.KernelRfl
namespace Go.M
open Go Go.Proofs
set_option maxRecDepth 100000
set_option maxHeartbeats 2000000
structure SR (a b:dG):Prop where
 e:a.e=b.e
 t:a.t=b.t
 keys:bN a.bs=bN b.bs
 last:∀k,(kV a k).getLast? =(kV b k).getLast?
theorem SR.refl (a:dG):SR a a:=⟨rfl,rfl,rfl,fun _=>rfl⟩
theorem SR.trans {a b c:dG} (h:SR a b) (k:SR b c):SR a c:=⟨h.e.trans k.e,h.t.trans k.t,h.keys.trans k.keys,fun x=>(h.last x).trans (k.last x)⟩
theorem SR.symm {a b:dG} (h:SR a b):SR b a:=⟨h.e.symm,h.t.symm,h.keys.symm,fun x=>(h.last x).symm⟩
theorem pW (vs:List Vs):du vs=vs.getLast?.getD fS:=by
 unfold du MP;cases vs with
 |nil=>rfl
 |cons v l=>
  rw[if_pos (by simp),List.getLast?_eq_getElem?];have:(((v::l).length:Int) - 1).toNat=(v::l).length - 1:=by simp
  rw[this,List.getD_eq_getElem?_getD]
theorem Rf (vs:List Vs):0<vs.length↔vs.getLast?.isSome=true:=by cases vs<;>simp
theorem SR.du {a b:dG} (h:SR a b) (k:Int):du (kV a k)=du (kV b k):=by rw[pW,pW,h.last k]
theorem SR.len {a b:dG} (h:SR a b):a.bs.length=b.bs.length:=by
 have:=congrArg List.length h.keys;simpa[bN]using this
theorem Ca (s:dG) (k k':Int) (vs:List Vs):kV {s with bs:=iA s.bs k vs} k'=if k'=k then vs else kV s k':=by
 unfold kV;dsimp only
 rw[mD];split<;>rfl
theorem KD (vs ws:List Vs) (v:Vs) (h:vs.getLast? =ws.getLast?):(kK vs v).getLast? =(kK ws v).getLast?:=by
 have e:oh vs v=oh ws v:=by
  unfold oh;simp only[Rf,pW,h]
 unfold kK;rw[e];split
 ·simp
 ·exact h
theorem SR.BQ {a b:dG} (h:SR a b) (k:Int) (v:Vs):SR (BQ a k v) (BQ b k v):=by
 refine⟨h.e,h.t,?_,fun x=>?_⟩
 ·show bN (iA a.bs k _)=bN (iA b.bs k _);rw[jd,jd,h.keys]
 ·show(kV {a with bs:=iA a.bs k _} x).getLast? =(kV {b with bs:=iA b.bs k _} x).getLast?;rw[Ca,Ca];split
  ·exact KD _ _ v (h.last k)
  ·exact h.last x
theorem SR.apply {a b:dG} (h:SR a b) (u:bo):SR (gu a u).2 (gu b u).2:=by
 have hr:mE a=mE b:=by unfold mE;rw[h.len]
 have ho:kW a u=kW b u:=by unfold kW;rw[h.du u.key,hr]
 unfold gu;rw[h.e,h.t];split
 ·exact h
 split
 ·exact h
 split
 ·exact⟨rfl,rfl,h.keys,h.last⟩
 ·have hw:SR (wrote a u) (wrote b u):=by
   have he:SR {a with e:=u.seq} {b with e:=u.seq}:=⟨rfl,h.t,h.keys,h.last⟩;unfold wrote;rw[ho];split
   ·exact he.BQ u.key ⟨(kW b u).2.1,u.seq,u.data⟩
   ·exact he
  have aN:BR a u=BR b u:=by unfold BR;rw[ho]
  rw[aN];exact⟨hw.e,rfl,hw.keys,hw.last⟩
theorem OB {vs:List Vs} (h:vs≠[]) (d:Int):eR vs d<vs.length:=by
 have h1:=vH (fun k=>decide (d<(vs.getD k fS).seq)) 0 vs.length (Nat.zero_le _);have h2:0<vs.length:=List.length_pos_iff.2 h;unfold eR lX;omega
theorem KE (vs:List Vs) (d:Int):(vs.drop (eR vs d)).getLast? =vs.getLast?:=by
 by_cases h:vs=[]
 ·subst h;simp
 ·have:=OB h d;rw[List.getLast?_drop,if_neg om]
theorem SR.iC (s:dG) (d k:Int):SR (iC s d k) s:=by
 unfold Go.M.iC;split
 ·rename_i vs h;have hk:k∈bN s.bs:=by
   refine Classical.byContradiction fun hn=>?_;rw[qY.2 hn]at h;cases h
  refine⟨rfl,rfl,?_,fun x=>?_⟩
  ·show bN (iA s.bs k _)=_;rw[jd,if_pos hk]
  ·rw[Ca];split
   ·rename_i e;subst e;rw[KE];unfold kV;rw[h];rfl
   ·rfl
 ·exact .refl s
theorem SR.jG (s:dG) (d:Int):SR (jG s d) s:=by
 rw[xT];have key:∀(ks:List Int) (r:dG×Nat),SR (kL d r ks).1 r.1:=by
  intro ks
  induction ks with
  |nil=>intro r;exact .refl _
  |cons k ks ih=>intro r;exact(ih (iD d r k)).trans (SR.iC r.1 d k)
 exact key _ _
theorem SR.pic {a b:dG} (h:SR a b):ru a=ru b:=by
 unfold ru;have hk:rq a=rq b:=by funext k;unfold rq;rw[h.du k]
 rw[h.e,h.t,h.len,h.keys,hk]
structure UG (M:Int) (u:bo):Prop where
 kind:u.kind=2
 cB:u.cB=0
 ak:1≤u.ak∧u.ak≤6
 num:1≤u.num∧u.num≤M
 key:0≤u.key∧u.key≤4
 data:u.data.length≤2048
structure RG (M e:Int) (r:fB):Prop where
 ak:0≤r.ak∧r.ak≤6
 num:0≤r.num∧r.num≤M
 seq:0≤r.seq∧r.seq≤e
 code:0≤r.code∧r.code≤255
 cB:0≤r.cB∧r.cB≤e
structure SG (M:Int) (s:dG):Prop where
 e:0≤s.e
 nodup:(bN s.bs).Nodup
 keys:∀k∈bN s.bs,0≤k∧k≤4
 vs:∀k ws,dP s.bs k=some ws→(∀v∈ws,(0≤v.cB∧v.cB≤s.e)∧(0≤v.seq∧v.seq≤s.e)∧v.data.length≤2048)∧(ws.length:Int)≤s.e
 rows:∀c,RG M s.e (s.t.row c)
theorem RG.mono {M M' e e':Int} {r:fB} (h:RG M e r) (h1:M≤M') (h2:e≤e'):RG M' e' r:=⟨h.ak,⟨h.num.1,by have:=h.num.2;omega⟩,⟨h.seq.1,by have:=h.seq.2;omega⟩,h.code,⟨h.cB.1,by have:=h.cB.2;omega⟩⟩
theorem SG.mono {M M':Int} {s:dG} (h:SG M s) (h1:M≤M'):SG M' s:=⟨h.e,h.nodup,h.keys,h.vs,fun c=>(h.rows c).mono h1 (Int.le_refl _)⟩
theorem SG.len {M:Int} {s:dG} (h:SG M s):s.bs.length≤5:=by
 have h1:(bN s.bs).Sublist (bN s.bs):=List.Sublist.refl _;have h2:(bN s.bs).length≤([0,1,2,3,4]:List Int).length:=by
  refine h.nodup.length_le_of_subset fun k hk=>?_;have:=h.keys k hk;have:k=0∨k=1∨k=2∨k=3∨k=4:=by omega
  simpa using this
 simpa[bN]using h2
theorem SG.sok {M:Int} {s:dG} (h:SG M s) (he:s.e≤50000):y8 s:=⟨fun k ws hl=>by
 obtain⟨h1,h2⟩:=h.vs k ws hl;exact⟨fun v hv=>let⟨a,b,c⟩:=h1 v hv;⟨⟨a.1,om⟩,⟨b.1,om⟩,c⟩,om⟩⟩
theorem SG.OC {M:Int} {s:dG} (h:SG M s):ye s.t:=fun c=>by
 unfold gK;split
 ·exact⟨by decide,by decide⟩
 ·exact(h.rows c).ak
theorem SG.OD {M:Int} {s:dG} (h:SG M s) (he:s.e≤50000) (hM:M≤50000):sM s:=by
 refine⟨h.sok he,⟨h.e,om⟩,fun r hr=>?_,by have:=h.len;omega,fun k hk=>by have:=h.keys k hk;omega⟩;have key:∀c,N4 (s.t.row c):=fun c=>by
  obtain⟨a,b,c,d,e⟩:=h.rows c;exact⟨a,⟨b.1,om⟩,⟨c.1,om⟩,d,⟨e.1,om⟩⟩
 have hr:=(List.mem_filter.1 hr).1;have:r=s.t.r1∨r=s.t.r2∨r=s.t.r3∨r=s.t.r4∨r=s.t.r5∨r=s.t.r6:=by
  simpa[p8]using hr
 rcases this with rfl |rfl |rfl |rfl |rfl |rfl
 ·exact key 1
 ·exact key 2
 ·exact key 3
 ·exact key 4
 ·exact key 5
 ·exact key 6
theorem SG.zero:SG 0 ⟨0,[],iB⟩:=⟨Int.le_refl _,List.nodup_nil,fun k hk=>(by cases hk),fun k ws h=>(by cases h),fun c=>by
 have:(iB).row c=e6:=by unfold dN.row;simp
 show RG 0 0 (iB.row c);rw[this];exact⟨⟨by decide,by decide⟩,⟨by decide,by decide⟩,⟨by decide,by decide⟩,⟨by decide,by decide⟩,⟨by decide,by decide⟩⟩⟩
theorem UG.YA {M:Int} {u:bo} (h:UG M u) (hs:1≤u.seq):o9 u=0:=by
 have h1:=h.ak;have h2:=h.num;have h3:=h.data;have hk:uV u.kind=true:=by rw[h.kind];rfl
 have ho:Qb u=true:=by
  unfold Qb;simp only[Bool.and_eq_true,Bool.not_eq_true',decide_eq_true_eq,decide_eq_false_iff_not];exact⟨om,h.ak,h.num.1,.inl ⟨h.kind,h.cB⟩,h.data⟩
 unfold o9;rw[if_pos hk,if_neg om,if_pos ho]
theorem Rg (t:dN) (c c':Int) (r:fB) (h:1≤c∧c≤6):(t.put c r).row c'=if c'=c then r else t.row c':=by
 rcases xZ h with rfl |rfl |rfl |rfl |rfl |rfl
 ·by_cases e:c'=1<;>simp[dN.put,dN.row,e]
 ·by_cases e:c'=2<;>simp[dN.put,dN.row,e]
 ·by_cases e:c'=3<;>simp[dN.put,dN.row,e]
 ·by_cases e:c'=4<;>simp[dN.put,dN.row,e]
 ·by_cases e:c'=5<;>simp[dN.put,dN.row,e]
 ·by_cases e:c'=6<;>simp[dN.put,dN.row,e]
theorem SG.up {M:Int} {s:dG} (h:SG M s) {e:Int} (he:s.e≤e):SG M {s with e:=e}:=by
 have h0:=h.e;refine⟨by show 0≤e;omega,h.nodup,h.keys,fun k ws hl=>?_,fun c=>(h.rows c).mono (Int.le_refl _) he⟩;obtain⟨h1,h2⟩:=h.vs k ws hl;exact⟨fun v hv=>let⟨a,b,c⟩:=h1 v hv;⟨⟨a.1,by show v.cB≤e;omega⟩,⟨b.1,by show v.seq≤e;omega⟩,c⟩,by show(ws.length:Int)≤e;omega⟩
theorem SG.Rh {M:Int} {s:dG} (h:SG M s) (k:Int):0≤(du (kV s k)).cB∧(du (kV s k)).cB≤s.e:=by
 have h0:=h.e;rw[pW];cases hg:(kV s k).getLast? with
 |none=>exact⟨Int.le_refl _,h0⟩
 |some v=>
  cases hl:dP s.bs k with
  |none=>rw[mK hl]at hg;cases hg
  |some ws=>
   rw[mL hl]at hg;exact((h.vs k ws hl).1 v (List.mem_of_getLast? hg)).1
theorem SG.wrote {M:Int} {s:dG} (h:SG M s) {u:bo} (hu:UG M u) (hs:u.seq=s.e+1):SG M (wrote s u)∧(wrote s u).t=s.t∧(wrote s u).e=u.seq∧((kW s u).1=0∨(kW s u).1=9)∧0≤(kW s u).2.1∧(kW s u).2.1≤u.seq:=by
 have h0:=h.e;obtain⟨v1,v2⟩:=h.Rh u.key;have hk:uV u.kind=true:=by rw[hu.kind];rfl
 have ho:kW s u=(if((du (kV s u.key)).cB=0∧mE s=false)∨(du (kV s u.key)).cB=18446744073709551615 then(9,(du (kV s u.key)).cB,false)else(0,(du (kV s u.key)).cB+1,true)):=by
  unfold kW xJ;rw[if_pos hk,if_neg (by rw[hu.kind];intro q;exact absurd q.1 (by decide))]
 have sH:=h.up (e:=u.seq) om;have RO:((kW s u).1=0∨(kW s u).1=9)∧0≤(kW s u).2.1∧(kW s u).2.1≤u.seq:=by
  rw[ho];split
  ·exact⟨.inr rfl,v1,by show(du (kV s u.key)).cB≤_;omega⟩
  ·exact⟨.inl rfl,by show 0≤(du (kV s u.key)).cB+1;omega,by show(du (kV s u.key)).cB+1≤_;omega⟩
 refine⟨?_,?_,?_,RO⟩
 ·unfold Go.M.wrote;split
  ·have hn:=xI (n:=u.key) (v:=kK (kV {s with e:=u.seq} u.key) ⟨(kW s u).2.1,u.seq,u.data⟩) h.nodup;refine⟨sH.e,hn,fun k hk=>?_,fun k ws hl=>?_,sH.rows⟩
   ·have hk:k∈bN (iA s.bs u.key _):=hk;rw[jd]at hk;split at hk
    ·exact h.keys k hk
    ·rcases List.mem_append.1 hk with q|q
     ·exact h.keys k q
     ·simp at q;subst q;exact hu.key
   ·have hl:dP (iA s.bs u.key _) k=some ws:=hl;rw[mD]at hl;split at hl
    ·cases hl;have hold:(∀v∈kV s u.key,(0≤v.cB∧v.cB≤u.seq)∧(0≤v.seq∧v.seq≤u.seq)∧v.data.length≤2048)∧((kV s u.key).length:Int)≤s.e:=by
      cases hq:dP s.bs u.key with
      |none=>rw[mK hq];exact⟨fun v hv=>(by cases hv),by simpa using h0⟩
      |some ws=>rw[mL hq];exact⟨(sH.vs u.key ws hq).1,(h.vs u.key ws hq).2⟩
     show(∀v∈kK (kV s u.key) _,_)∧((kK (kV s u.key) _).length:Int)≤u.seq;unfold kK;split
     ·refine⟨fun v hv=>?_,by rw[List.length_append];simp;omega⟩;rcases List.mem_append.1 hv with q|q
      ·exact hold.1 v q
      ·simp at q;subst q;exact⟨RO.2,⟨by show 0≤u.seq;omega,Int.le_refl _⟩,hu.data⟩
     ·exact⟨hold.1,by have:=hold.2;omega⟩
    ·exact sH.vs k ws hl
  ·exact sH
 ·unfold Go.M.wrote;split<;>rfl
 ·unfold Go.M.wrote;split<;>rfl
theorem SG.apply {M:Int} {s:dG} (h:SG M s) {u:bo} (hu:UG M u) (hs:u.seq=s.e+1):SG M (gu s u).2∧(gu s u).2.e=u.seq:=by
 have h0:=h.e;unfold gu;rw[if_neg (not_not_intro (hu.YA om)),if_neg om];split
 ·exact⟨h.up om,rfl⟩
 ·obtain⟨w1,w2,w3,w4,w5⟩:=h.wrote hu hs;refine⟨⟨w1.e,w1.nodup,w1.keys,w1.vs,fun c=>?_⟩,w3⟩;show RG M (Go.M.wrote s u).e ((Gc s.t (BR s u)).row c);have hold:RG M (Go.M.wrote s u).e (s.t.row c):=by rw[←w2];exact w1.rows c
  unfold Gc;split
  ·rw[Rg _ _ _ _ hu.ak];split
   ·rw[w3];exact⟨⟨by have:=hu.ak;show 0≤u.ak;omega,hu.ak.2⟩,⟨by have:=hu.num;show 0≤u.num;omega,hu.num.2⟩,⟨by show 0≤u.seq;omega,Int.le_refl _⟩,by show 0≤(kW s u).1∧(kW s u).1≤255;omega,w5⟩
   ·exact hold
  ·exact hold
theorem SG.iC {M:Int} {s:dG} (h:SG M s) (d k:Int):SG M (iC s d k):=by
 unfold Go.M.iC;split
 ·rename_i vs hl;obtain⟨h1,h2⟩:=h.vs k vs hl;have hk:k∈bN s.bs:=by
   refine Classical.byContradiction fun hn=>?_;rw[qY.2 hn]at hl;cases hl
  have mH:bN (iA s.bs k (vs.drop (eR vs d)))=bN s.bs:=by rw[jd,if_pos hk]
  refine⟨h.e,xI h.nodup,fun x hx=>h.keys x (mH▸hx),fun x ws hx=>?_,h.rows⟩;have hx:dP (iA s.bs k _) x=some ws:=hx;rw[mD]at hx;split at hx
  ·cases hx;exact⟨fun v hv=>h1 v (List.mem_of_mem_drop hv),by rw[List.length_drop];show _≤s.e;omega⟩
  ·exact h.vs x ws hx
 ·exact h
theorem SG.jG {M:Int} {s:dG} (h:SG M s) (d:Int):SG M (jG s d):=by
 rw[xT];have key:∀(ks:List Int) (r:dG×Nat),SG M r.1→SG M (kL d r ks).1:=by
  intro ks
  induction ks with
  |nil=>intro r hr;exact hr
  |cons k ks ih=>intro r hr;exact ih (iD d r k) (hr.iC d k)
 exact key _ _ h
def Wg (l:List bo):dG:=l.foldl (fun s u=>(gu s u).2) ⟨0,[],iB⟩
theorem Ev (l:List bo) (u:bo):Wg (l++[u])=(gu (Wg l) u).2:=by unfold Wg;rw[List.foldl_append];rfl
theorem SG.fresh {M:Int} {s:dG} (h:SG M s) {c n:Int} (hc:1≤c∧c≤6) (hn:M<n) (hM:0≤M):bQ s.t c n=0:=by
 have:=(h.rows c).num;unfold bQ;rw[if_neg (by rintro(q|q);exact q hc;omega),if_pos om]
structure LG (M:Int) (L:List bo):Prop where
 seq:∀(i:Nat) u,L[i]? =some u→u.seq=(i:Int)+1
 ok:∀u∈L,UG M u
theorem UG.mono {M M':Int} {u:bo} (h:UG M u) (k:M≤M'):UG M' u:=⟨h.kind,h.cB,h.ak,⟨h.num.1,by have:=h.num.2;omega⟩,h.key,h.data⟩
theorem LG.mono {M M':Int} {L:List bo} (h:LG M L) (k:M≤M'):LG M' L:=⟨h.seq,fun u hu=>(h.ok u hu).mono k⟩
theorem LG.snoc {M:Int} {L:List bo} (h:LG M L) {u:bo} (hu:UG M u) (hs:u.seq=(L.length:Int)+1):LG M (L++[u]):=by
 refine⟨fun i v hv=>?_,fun v hv=>?_⟩
 ·rcases Nat.lt_or_ge i L.length with q|q
  ·rw[List.getElem?_append_left q]at hv;exact h.seq i v hv
  ·rw[List.getElem?_append_right q]at hv;have hi:i=L.length:=by
    have:=(List.getElem?_eq_some_iff.1 hv).1;simp at this;omega
   subst hi;simp at hv;subst hv;exact hs
 ·rcases List.mem_append.1 hv with q|q
  ·exact h.ok v q
  ·simp at q;subst q;exact hu
theorem OE {M:Int} (hM:0≤M):∀(n:Nat) {L:List bo},L.length=n→LG M L→SG M (Wg L)∧(Wg L).e=n
 |0,L,hn,_=>by
  obtain rfl:=List.length_eq_zero_iff.1 hn;exact⟨SG.zero.mono hM,rfl⟩
 |n+1,L,hn,h=>by
  have bj:L≠[]:=by intro e;subst e;simp at hn
  have e:=List.dropLast_concat_getLast bj;generalize L.dropLast=K at e;generalize L.getLast bj=u at e;subst e;rw[List.length_append]at hn;have hn:K.length=n:=by simpa using hn
  have hK:LG M K:=⟨fun i v hv=>h.seq i v (by rw[List.getElem?_append_left (List.getElem?_eq_some_iff.1 hv).1];exact hv),fun v hv=>h.ok v (List.mem_append_left _ hv)⟩;obtain⟨h1,h2⟩:=OE hM n hn hK;have hs:u.seq=(K.length:Int)+1:=h.seq K.length u (by simp);obtain⟨k1,k2⟩:=h1.apply (h.ok u (by simp)) om;rw[Ev];exact⟨k1,by rw[k2,hs];omega⟩
structure WI (L:List bo) (w:gy):Prop where
 low:0≤w.low
 ld:w.low≤w.done
 de:w.done≤L.length
 l:w.l=L.drop w.low.toNat
theorem WI.end_ {L:List bo} {w:gy} (h:WI L w):aE w=L.length:=by
 have h1:=h.low;have h2:=h.ld;have h3:=h.de;show w.low+(w.l.length:Nat)=_;rw[h.l,List.length_drop];omega
theorem WI.trim {L:List bo} {w:gy} (h:WI L w):WI L (lB w)∧(lB w).done=w.done:=by
 have h1:=h.low;have h2:=h.ld;have h3:=h.de;have he:=h.end_;unfold lB;split
 ·exact⟨h,rfl⟩
 ·refine⟨⟨by show 0≤max w.low _;omega,by show max w.low _≤w.done;omega,h3,?_⟩,rfl⟩;show w.l.drop _=L.drop (max w.low _).toNat
  rw[h.l,List.drop_drop]
  congr 1
  omega
theorem WI.add {M:Int} {L:List bo} {w:gy} (h:WI L w) {u:bo} (hu:UG M u) (hs:u.seq=(L.length:Int)+1):WI (L++[u]) (xU w u)∧(xU w u).done=w.done:=by
 have h1:=h.low;have h2:=h.ld;have h3:=h.de;have he:=h.end_;have hw:WI (L++[u]) {w with l:=w.l++[u]}:=⟨h1,h2,by rw[List.length_append];show w.done≤_;simp;omega,by
  show w.l++[u]=(L++[u]).drop w.low.toNat
  rw[h.l,List.drop_append_of_le_length om]⟩
 have e:xU w u=lB {w with l:=w.l++[u]}:=by
  unfold xU;rw[if_neg (not_not_intro (hu.YA om)),if_neg om]
 rw[e];exact hw.trim
theorem WI.reach {L:List bo} {w:gy} (h:WI L w) (n:Int):WI L (cM w n).2∧(cM w n).2.done=max w.done (min n L.length)∧(cM w n).1.length≤L.length:=by
 have h1:=h.low;have h2:=h.ld;have h3:=h.de;have he:=h.end_;have hr:b6 w n=max w.done (min n L.length):=by unfold b6;rw[he]
 have hw:WI L {w with done:=b6 w n}:=⟨h1,by show w.low≤b6 w n;omega,by show b6 w n≤_;omega,h.l⟩;refine⟨hw.trim.1,by rw[←hr];exact hw.trim.2,?_⟩;have:=kO w.done w.l (b6 w n - w.done);have hl:w.l.length≤L.length:=by rw[h.l,List.length_drop];omega
 show(bR w.done w.l (b6 w n - w.done)).length≤_;omega
structure NI (c:CF) (j M:Int) (L:List bo) (x:RS):Prop where
 node:x.node=j
 au:x.au=c
 role:x.role=aD c j
 df:x.df=true
 comes:x.comes=JX
 log:LG M L
 st:SR x.st (Wg L)
 sg:SG M x.st
 an:WI L x.an
 base:0≤x.base∧x.base≤L.length
 M0:0≤M
theorem NI.e {c:CF} {j M:Int} {L:List bo} {x:RS} (N:NI c j M L x):x.st.e=L.length:=N.st.e.trans (OE N.M0 _ rfl N.log).2
theorem NI.mono {c:CF} {j M M':Int} {L:List bo} {x:RS} (N:NI c j M L x) (h:M≤M'):NI c j M' L x:=⟨N.node,N.au,N.role,N.df,N.comes,N.log.mono h,N.st,N.sg.mono h,N.an,N.base,by have:=N.M0;omega⟩
def LK (c:CF) (j:Int) (L:List bo) (d b:Int) (m:Lr):Prop:=(m.kind=18∧200≤m.to)∨
 (∃s dd us,m=rD j (aD c j).succ c.chain c.aB s dd us∧(aD c j).succ≠0∧us.length≤4∧∀u∈us,u∈L)∨
 (∃s dd,m=pS j (aD c j).pred c.chain c.aB 0 s dd 0∧(aD c j).pred≠0∧s≤L.length∧0≤dd∧dd≤d∧dd≤s∧b≤s)
theorem LK.mono {c:CF} {j:Int} {L L':List bo} {d d' b:Int} {m:Lr} (h:LK c j L d b m) (hL:L<+:L') (hd:d≤d'):LK c j L' d' b m:=by
 rcases h with h|⟨s,dd,us,h1,h2,h3,h4⟩|⟨s,dd,h1,h2,h3,h4,h5,h6,h7⟩
 ·exact .inl h
 ·exact .inr (.inl ⟨s,dd,us,h1,h2,h3,fun u hu=>hL.subset (h4 u hu)⟩)
 ·exact .inr (.inr ⟨s,dd,h1,h2,by have:=hL.length_le;omega,h4,om,h6,h7⟩)
structure ot (c:CF) (j M:Int) (L L':List bo) (x y:RS) (k:Nat):Prop where
 ni:NI c j M L' y
 pre:L<+:L'
 done:x.an.done≤y.an.done
 base:y.base=x.base
 GK:∀m∈y.out,m∈x.out∨LK c j L' y.an.done y.base m
 len:y.out.length≤x.out.length+k
theorem ot.trans {c:CF} {j M:Int} {L L' L'':List bo} {x y z:RS} {a b:Nat} (h:ot c j M L L' x y a) (k:ot c j M L' L'' y z b):ot c j M L L'' x z (a+b):=
 ⟨k.ni,h.pre.trans k.pre,Int.le_trans h.done k.done,k.base.trans h.base,fun m hm=>by
  rcases k.GK m hm with q|q
  ·rcases h.GK m q with q|q
   ·exact .inl q
   ·exact .inr (by rw[k.base];exact q.mono k.pre k.done)
  ·exact .inr q,by have:=h.len;have:=k.len;omega⟩
theorem ot.refl {c:CF} {j M:Int} {L:List bo} {x:RS} (N:NI c j M L x):ot c j M L L x x 0:=⟨N,List.prefix_refl _,Int.le_refl _,rfl,fun _ h=>.inl h,Nat.le_refl _⟩
theorem NI.ack {c:CF} {j M:Int} {L:List bo} {x:RS} (N:NI c j M L x):ot c j M L L x (gL x) 1:=by
 unfold gL;split
 ·exact⟨N,List.prefix_refl _,Int.le_refl _,rfl,fun _ h=>.inl h,Nat.le_succ _⟩
 ·rename_i hp;have hd:=N.an.ld;have uv:=N.an.low;have hde:=N.an.de;refine⟨⟨N.node,N.au,N.role,N.df,N.comes,N.log,N.st,N.sg,N.an,N.base,N.M0⟩,List.prefix_refl _,Int.le_refl _,rfl,fun m hm=>?_,by show(x.out++[_]).length≤_;rw[List.length_append];exact Nat.le_refl _⟩;rcases List.mem_append.1 hm with q|q
  ·exact .inl q
  ·simp only[List.mem_singleton]at q;refine .inr (.inr (.inr ⟨aE x.an,x.an.done,?_,by rw[←N.role];exact hp,by rw[N.an.end_];exact Int.le_refl _,om,Int.le_refl _,by rw[N.an.end_];omega,by rw[N.an.end_];exact N.base.2⟩));rw[q];show pd x {V9 with kind:=13,seq:=aE x.an,done:=x.an.done,num:=x.comes.at_,slot:=x.comes.next} x.role.pred=_;rw[N.comes,N.role];unfold pd;rw[if_neg (show¬(13:Int)=18 by decide),N.node,N.au]
theorem NI.eS {c:CF} {j M:Int} {L:List bo} {x:RS} (N:NI c j M L x) {st:dG} (hr:ye st.t) (u:bo):ot c j M L L x (eS st x u) 1:=by
 unfold Go.M.eS;split
 ·refine⟨⟨N.node,N.au,N.role,N.df,N.comes,N.log,N.st,N.sg,N.an,N.base,N.M0⟩,List.prefix_refl _,Int.le_refl _,rfl,fun m hm=>?_,by show(x.out++[_]).length≤_;rw[List.length_append];exact Nat.le_refl _⟩;rcases List.mem_append.1 hm with q|q
  ·exact .inl q
  ·simp only[List.mem_singleton]at q;refine .inr (.inl ?_);rw[q];exact⟨rfl,by have:=(hr u.ak).1;show 200≤200+(gK st.t u.ak).1.ak;omega⟩
 ·exact⟨N,List.prefix_refl _,Int.le_refl _,rfl,fun _ h=>.inl h,Nat.le_succ _⟩
theorem NI.SF {c:CF} {j M:Int} {L:List bo} {st:dG} (hr:ye st.t):∀(l:List bo) {x:RS},NI c j M L x→ot c j M L L x (l.foldl (Go.M.eS st) x) l.length
 |[],_,N=>.refl N
 |u::l,x,N=>by
  have h:=(N.eS hr u).trans (NI.SF hr l (N.eS hr u).ni);rw[List.length_cons,Nat.add_comm];exact h
theorem NI.done {c:CF} {j M:Int} {L:List bo} {x:RS} (N:NI c j M L x) (n:Int):ot c j M L L x (cA x n) (L.length+1)∧(cA x n).an.done=max x.an.done (min n L.length):=by
 obtain⟨w1,w2,w3⟩:=N.an.reach n;have N1:NI c j M L {x with an:=(cM x.an n).2}:=⟨N.node,N.au,N.role,N.df,N.comes,N.log,N.st,N.sg,w1,N.base,N.M0⟩;have A1:ot c j M L L x {x with an:=(cM x.an n).2} 0:=⟨N1,List.prefix_refl _,by show _≤(cM x.an n).2.done;rw[w2];omega,rfl,fun _ h=>.inl h,Nat.le_refl _⟩;have A2:=A1.trans (NI.SF N.sg.OC (cM x.an n).1 N1);have Ri:=(pV x.st (cM x.an n).1 {x with an:=(cM x.an n).2}).an;have ct:=(pV x.st (cM x.an n).1 {x with an:=(cM x.an n).2}).st;unfold cA;dsimp only
 generalize (cM x.an n).1.foldl (Go.M.eS x.st) {x with an:=(cM x.an n).2}=y at A2 Ri ct;have Ny:=A2.ni;have ct:y.st=x.st:=ct;have Ri:y.an=(cM x.an n).2:=Ri;have N3:NI c j M L {y with st:=jG x.st (cM x.an n).2.done}:=⟨Ny.node,Ny.au,Ny.role,Ny.df,Ny.comes,Ny.log,(SR.jG x.st _).trans N.st,N.sg.jG _,Ny.an,Ny.base,Ny.M0⟩;have A3:ot c j M L L x {y with st:=jG x.st (cM x.an n).2.done} L.length:=⟨N3,A2.pre,A2.done,A2.base,A2.GK,by have:=A2.len;show y.out.length≤_;omega⟩;have hwd:y.an.done=max x.an.done (min n L.length):=by rw[Ri];exact w2
 split
 ·refine⟨A3.trans N3.ack,?_⟩;have:∀z:RS,(gL z).an=z.an:=fun z=>by unfold gL;split<;>rfl
  rw[this];exact hwd
 ·exact⟨⟨A3.ni,A3.pre,A3.done,A3.base,A3.GK,by have:=A3.len;omega⟩,hwd⟩
set_option maxHeartbeats 4000000
@[reducible] def zJF:CF:=⟨0,0,[],false,0⟩
@[reducible] def abZ (node:Int):RS:=⟨node,zJF,tY,⟨0,[],iB⟩,⟨0,0,[]⟩,0,false,0,false,0,JX,[]⟩
theorem OF (a c:CF) (H:cW c) (h1:a.chain=c.chain) (h2:a.aB<c.aB):VC E0 52 0 [.agg (bS a),.agg (bS c)] [] (RR (.s (.bool true)) 0 []):=by
 refine en L0 Tryz.f52 ?_;refine⟨[],[],_,_,_,_,pq c H,t3,cw ?_⟩;refine sp ?_ ?_<;>intro q1;rotate_left
 ·exact absurd h1 q1
 refine wh ?_;refine sp ?_ ?_<;>intro q2;rotate_left
 ·exact absurd h2 q2
 refine wh ?_;exact⟨[],[],_,_,_,t3,rfl,rfl,rfl⟩
def bm (x:RS) (c:CF):RS:=if(aD c x.node).tail=true then cA (nO x c) (aE x.an)else nO x c
theorem OG (x:RS) (c:CF) (H:cW c) (G:e7 (nO x c)) (h:(x.au.aB=0∧((aD c x.node).DZ=true∨(aD c x.node).jY=true))∨(x.au.aB≠0∧x.au.chain=c.chain∧x.au.aB<c.aB)):
 VC E0 21 1 [.ptr 0 0,.agg (bS c)] (gA x) (RR (.cY [.tk 1,.s (.bool true)]) 2 [(0,kP (a6 (bm x c))),(1,.arr 25 true ((bm x c).out.map ai))]):=by
 have vp:=kh c H x.node;have fH:=Ov x c H G.an;have dX:=eG (nO x c).an G.an;have dT:=G.done (aE (nO x c).an) G.Q4;have Ep:=dm (bm x c);have het:bm x c=(if(aD c x.node).tail=true then cA (nO x c) (aE (nO x c).an)else nO x c):=rfl;have Iv:(nO x c).role=aD c x.node:=rfl;generalize bm x c=y at Ep het ⊢;generalize hr:aD c x.node=r at vp h het Iv;obtain⟨ri,rj,rh,rt,U3,YC,YD,YE⟩:=r;rcases h with⟨h0,h1⟩|⟨h0,h1,h2⟩
 ·cases ri with
  |true=>
   refine en L0 Tryz.f21 ?_;refine⟨[],[],_,_,_,_,vp,t3,cw ?_⟩;refine sp ?_ ?_<;>intro q0;rotate_left
   ·exact absurd h0 q0
   refine wh ?_;refine⟨[],[some 0],_,_,_,_,fH,t3,cw ?_⟩;generalize hz:nO x c=z at fH dT dX Iv het;obtain⟨sP,lF,jI,Q6,B5,sQ,B6,B7,nM,sR,nN,B8⟩:=z;have Iv:jI=_:=Iv;subst Iv;cases rt with
   |true=>
    have het:y=_:=het.trans (if_pos rfl);subst het;refine wh ?_;refine⟨[],[some 4],_,_,_,_,dX,t3,cw ?_⟩;refine⟨[],[some 0],_,_,_,_,dT,t3,cw ?_⟩;refine⟨[],[some 0],_,_,_,_,Ep,t3,cw ?_⟩;exact⟨[],[some 0,some 8],_,_,_,t3,rfl,rfl,rfl⟩
   |false=>
    have het:y=_:=het.trans (if_neg Bool.noConfusion);subst het;refine wh ?_;refine⟨[],[some 0],_,_,_,_,Ep,t3,cw ?_⟩;exact⟨[],[some 0,some 5],_,_,_,t3,rfl,rfl,rfl⟩
  |false=>
   have h1:rj=true:=h1.resolve_left Bool.noConfusion;subst h1;refine en L0 Tryz.f21 ?_;refine⟨[],[],_,_,_,_,vp,t3,cw ?_⟩;refine sp ?_ ?_<;>intro q0;rotate_left
   ·exact absurd h0 q0
   refine wh ?_;refine⟨[],[some 0],_,_,_,_,fH,t3,cw ?_⟩;generalize hz:nO x c=z at fH dT dX Iv het;obtain⟨sP,lF,jI,Q6,B5,sQ,B6,B7,nM,sR,nN,B8⟩:=z;have Iv:jI=_:=Iv;subst Iv;cases rt with
   |true=>
    have het:y=_:=het.trans (if_pos rfl);subst het;refine wh ?_;refine⟨[],[some 4],_,_,_,_,dX,t3,cw ?_⟩;refine⟨[],[some 0],_,_,_,_,dT,t3,cw ?_⟩;refine⟨[],[some 0],_,_,_,_,Ep,t3,cw ?_⟩;exact⟨[],[some 0,some 8],_,_,_,t3,rfl,rfl,rfl⟩
   |false=>
    have het:y=_:=het.trans (if_neg Bool.noConfusion);subst het;refine wh ?_;refine⟨[],[some 0],_,_,_,_,Ep,t3,cw ?_⟩;exact⟨[],[some 0,some 5],_,_,_,t3,rfl,rfl,rfl⟩
 ·have KW:=OF x.au c H h1 h2;refine en L0 Tryz.f21 ?_;refine⟨[],[],_,_,_,_,vp,t3,cw ?_⟩;refine sp ?_ ?_<;>intro q0
  ·exact absurd q0 h0
  refine wh ?_;refine sp ?_ ?_<;>intro q1
  ·exact absurd q1 h0
  refine wh ?_;refine⟨[],[],_,_,_,_,KW,t3,cw ?_⟩;refine⟨[],[some 0],_,_,_,_,fH,t3,cw ?_⟩;generalize hz:nO x c=z at fH dT dX Iv het;obtain⟨sP,lF,jI,Q6,B5,sQ,B6,B7,nM,sR,nN,B8⟩:=z;have Iv:jI=_:=Iv;subst Iv;cases rt with
  |true=>
   have het:y=_:=het.trans (if_pos rfl);subst het;refine wh ?_;refine⟨[],[some 4],_,_,_,_,dX,t3,cw ?_⟩;refine⟨[],[some 0],_,_,_,_,dT,t3,cw ?_⟩;refine⟨[],[some 0],_,_,_,_,Ep,t3,cw ?_⟩;exact⟨[],[some 0,some 8],_,_,_,t3,rfl,rfl,rfl⟩
  |false=>
   have het:y=_:=het.trans (if_neg Bool.noConfusion);subst het;refine wh ?_;refine⟨[],[some 0],_,_,_,_,Ep,t3,cw ?_⟩;exact⟨[],[some 0,some 5],_,_,_,t3,rfl,rfl,rfl⟩
def HC (x:RS) (n:Nat):Prop:=x.role.succ=0∨x.known=false∨(x.an.done≤x.bl∧x.bl≤n)
theorem Ew (x:RS) (l:Lr) (to:Int):fX x (y7 x l to):=⟨rfl,rfl,rfl,rfl,rfl,rfl,rfl⟩
theorem pX (x:RS):fX x (cp x):=by
 unfold cp;split
 ·exact .refl x
 split
 ·exact Ew _ _ _
 split
 ·exact Ew _ _ _
 ·exact .refl x
theorem sS (x:RS):(cp x).an=x.an:=by
 unfold cp;split
 ·rfl
 split
 ·rfl
 split<;>rfl
section
variable {c:CF} {j M:Int} {L:List bo} {x:RS}
theorem HC.from_ (N:NI c j M L x) (h:HC x L.length) (m:Int):x.role.succ=0∨x.known=false∨(g9 x.an x.bl m).isSome=true:=by
 rcases h with h|h|⟨h1,h2⟩
 ·exact .inl h
 ·exact .inr (.inl h)
 ·refine .inr (.inr ?_);have:=N.an.ld;unfold g9;rw[if_neg (by rw[N.an.end_];omega)];rfl
theorem NI.say (N:NI c j M L x) (l:Lr) (to:Int) (h:LK c j L x.an.done x.base (pd x l to)):ot c j M L L x (y7 x l to) 1:=
 ⟨⟨N.node,N.au,N.role,N.df,N.comes,N.log,N.st,N.sg,N.an,N.base,N.M0⟩,List.prefix_refl _,Int.le_refl _,rfl,fun m hm=>by
  rcases List.mem_append.1 hm with q|q
  ·exact .inl q
  ·simp only[List.mem_singleton]at q;rw[q];exact .inr h,by show(x.out++[_]).length≤_;rw[List.length_append];exact Nat.le_refl _⟩
theorem NI.qo (N:NI c j M L x) (us:List bo) (hs:x.role.succ≠0) (hl:us.length≤4) (hu:∀u∈us,u∈L):LK c j L x.an.done x.base (pd x (qo x us) x.role.succ):=by
 refine .inr (.inl ⟨aE x.an,x.base,us,?_,by rw[←N.role];exact hs,hl,hu⟩);show pd x {V9 with kind:=12,seq:=aE x.an,done:=x.base,us:=us} x.role.succ=_;unfold pd;rw[if_neg (show¬(12:Int)=18 by decide),N.node,N.au,N.role]
theorem ot.ef {L':List bo} {y:RS} {a b:Nat} (h:ot c j M L L' x y a) (k:a≤b):ot c j M L L' x y b:=⟨h.ni,h.pre,h.done,h.base,h.GK,by have:=h.len;omega⟩
theorem NI.hand (N:NI c j M L x):ot c j M L L x (cp x) 1:=by
 unfold cp;split
 ·exact(ot.refl N).ef om
 rename_i hs;split
 ·exact N.say _ _ (N.qo [] hs (by decide) (fun u hu=>by cases hu))
 split
 ·rename_i l hf;unfold g9 at hf;split at hf
  ·cases hf
  ·cases hf;have h4:=lC x.bl x.an.l 4 (by decide);exact N.say _ _ (N.qo _ hs om fun u hu=>by
    have:=qZ _ _ _ u hu;rw[N.an.l]at this;exact List.mem_of_mem_drop this)
 ·exact(ot.refl N).ef om
theorem NI.up (N:NI c j M L x) {u:bo} (hu:UG M u) (hs:u.seq=(L.length:Int)+1):ot c j M L (L++[u]) x (rC x u) 0:=by
 obtain⟨w1,w2⟩:=N.an.add hu hs;have he:=N.e;obtain⟨s1,s2⟩:=N.sg.apply hu om;refine⟨⟨N.node,N.au,N.role,N.df,N.comes,N.log.snoc hu hs,?_,s1,w1,?_,N.M0⟩,List.prefix_append _ _,by show _≤(xU x.an u).done;rw[w2];exact Int.le_refl _,rfl,fun _ h=>.inl h,Nat.le_refl _⟩
 ·rw[Ev];exact N.st.apply u
 ·have:=N.base;rw[List.length_append];show 0≤x.base∧x.base≤_;simp;omega
theorem NI.ups:∀(l:List bo) {L:List bo} {x:RS},NI c j M L x→(∀u∈l,UG M u)→(∀(i:Nat) u,l[i]? =some u→u.seq=(L.length:Int)+i+1)→ot c j M L (L++l) x (l.foldl rC x) 0
 |[],L,x,N,_,_=>by rw[List.append_nil];exact .refl N
 |u::l,L,x,N,h1,h2=>by
  have A:=N.up (h1 u List.mem_cons_self) (by have:=h2 0 u rfl;simpa using this);have B:=NI.ups l A.ni (fun v hv=>h1 v (List.mem_cons_of_mem _ hv)) fun i v hv=>by
   have:=h2 (i+1) v hv;rw[List.length_append];simp at this ⊢;omega
  have:=A.trans B;rw[List.append_assoc]at this;exact this
theorem mO:∀(us:List bo) (a:Int) (u:bo),u∈bt us a→u∈us
 |[],_,u,h=>by cases h
 |v::us,a,u,h=>by
  unfold bt at h;split at h
  ·exact List.mem_cons_of_mem _ (mO us a u h)
  ·rcases List.mem_cons.1 h with rfl |h
   ·exact List.mem_cons_self
   ·exact List.mem_cons_of_mem _ (mO us _ u h)
theorem mP:∀(us:List bo) (a:Int) (i:Nat) (u:bo),(bt us a)[i]? =some u→u.seq=a+i+1
 |[],_,i,u,h=>by simp[bt]at h
 |v::us,a,i,u,h=>by
  unfold bt at h;split at h
  ·exact mP us a i u h
  ·rename_i hv;rw[not_or]at hv;have Hc:=Classical.not_not.1 hv.2;cases i with
   |zero=>simp at h;subst h;simp;omega
   |succ i=>
    have:=mP us v.seq i u (by simpa using h);simp;omega
theorem Ey:∀(l:List bo) (y:RS),(l.foldl rC y).an.done=y.an.done
 |[],_=>rfl
 |u::l,y=>by
  rw[List.foldl_cons,Ey l];show(xU y.an u).done=_;unfold xU;split
  ·rfl
  split
  ·rfl
  ·unfold lB;split<;>rfl
theorem NI.fE (N:NI c j M L x) (us:List bo) (hu:∀u∈us,UG M u):ot c j M L (L++bt us L.length) x (fE x us) 0∧fX x (fE x us)∧(fE x us).an.done=x.an.done:=by
 refine⟨?_,sO _ x,Ey _ x⟩;show ot c j M L _ x ((bt us (aE x.an)).foldl rC x) 0;rw[N.an.end_];exact NI.ups _ N (fun u h=>hu u (mO _ _ u h)) fun i u h=>mP _ _ i u h
theorem NI.nT (N:NI c j M L x) (us:List bo) (hu:∀u∈us,UG M u) (hj:(aD c j).jY=false):
 ot c j M L (L++bt us L.length) x (nT x us) ((L++bt us L.length).length+1)∧fX x (nT x us)∧(nT x us).an.done=(if(aD c j).tail=true then((L++bt us L.length).length:Int)else x.an.done):=by
 obtain⟨A1,K1,OH⟩:=N.fE us hu;have hr:x.role=aD c j:=N.role;cases ht:(aD c j).tail with
 |true=>
  have e:Go.M.nT x us=cA (Go.M.fE x us) (aE (Go.M.fE x us).an):=if_pos (.inl (by rw[hr];exact ht));rw[e,if_pos rfl];obtain⟨B1,B2⟩:=A1.ni.done (aE (Go.M.fE x us).an);refine⟨(A1.trans B1).ef om,K1.trans (fV _ _),?_⟩;rw[B2,A1.ni.an.end_];have:=A1.ni.an.de;omega
 |false=>
  have e:Go.M.nT x us=Go.M.fE x us:=if_neg (by rw[hr,ht,hj];rintro(q|q)<;>cases q);rw[e,if_neg Bool.noConfusion];exact⟨A1.ef om,K1,OH⟩
theorem NI.B4 (N:NI c j M L x) (d:Int) (us:List bo) (hf:c.fresh=false):B4 x d us=Go.M.nT x us:=if_neg (fun q=>by rw[N.au,hf]at q;exact Bool.noConfusion q.2.1)
theorem NI.push (N:NI c j M L x) (d:Int) (us:List bo) (hu:∀u∈us,UG M u) (hj:(aD c j).jY=false) (hf:c.fresh=false):
 ot c j M L (L++bt us L.length) x (pe x d us) ((L++bt us L.length).length+3)∧(pe x d us).bl=x.bl∧(pe x d us).known=x.known∧(pe x d us).an.done=(if(aD c j).tail=true then((L++bt us L.length).length:Int)else x.an.done):=by
 obtain⟨A2,K2,D2⟩:=N.nT us hu hj;have A3:=A2.trans A2.ni.ack;have K3:=K2.trans (yf (Go.M.nT x us));have D3:(gL (Go.M.nT x us)).an.done=(Go.M.nT x us).an.done:=by unfold gL;split<;>rfl
 rw[Es,N.B4 d us hf];split
 ·have A4:=A3.trans A3.ni.hand;have K4:=K3.trans (pX (gL (Go.M.nT x us)));exact⟨A4.ef om,K4.bl,K4.known,by rw[sS,D3,D2]⟩
 ·exact⟨A3.ef om,K3.bl,K3.known,by rw[D3,D2]⟩
theorem NI.write (N:NI c j M L x) {u:bo} (hu:UG M {u with seq:=(L.length:Int)+1}) (hj:bQ x.st.t u.ak u.num=0):
 ∃L',ot c j M L L' x (gz x u) (L.length+3)∧(L'=L∨L'=L++[{u with seq:=(L.length:Int)+1}])∧(gz x u).bl=x.bl∧(gz x u).known=x.known∧((aD c j).tail=false→(gz x u).an.done=x.an.done):=by
 by_cases hd:iE x.an<16;rotate_left
 ·have e:gz x u=x:=by
   unfold gz;rw[if_neg (by rw[N.df];exact Bool.noConfusion),if_neg (by rw[hj];decide),if_pos hj,if_neg hd]
  rw[e];exact⟨L,(ot.refl N).ef om,.inl rfl,rfl,rfl,fun _=>rfl⟩
 rw[Aq N.df hj hd];have e1:jg x u=rC x {u with seq:=(L.length:Int)+1}:=by
  show rC x (u2 x u)=_;unfold u2;rw[N.an.end_]
 have A1:=N.up (u:={u with seq:=(L.length:Int)+1}) hu rfl;rw[←e1]at A1;have K1:fX x (jg x u):=B3 x _;have hr:x.role=aD c j:=N.role;have OH:(jg x u).an.done=x.an.done:=by rw[e1];exact(N.an.add (u:={u with seq:=(L.length:Int)+1}) hu rfl).2
 have A2:ot c j M L (L++[{u with seq:=(L.length:Int)+1}]) x (uj x u) (L.length+2)∧fX x (uj x u)∧((aD c j).tail=false→(uj x u).an.done=x.an.done):=by
  cases ht:(aD c j).tail with
  |true=>
   have e:uj x u=cA (jg x u) (aE (jg x u).an):=if_pos (by rw[hr];exact ht);rw[e];obtain⟨B1,B2⟩:=A1.ni.done (aE (jg x u).an);exact⟨(A1.trans B1).ef (by simp),K1.trans (fV _ _),fun q=>Bool.noConfusion q⟩
  |false=>
   have e:uj x u=jg x u:=if_neg (by rw[hr,ht];exact Bool.noConfusion);rw[e];exact⟨A1.ef om,K1,fun _=>OH⟩
 obtain⟨A2,K2,D2⟩:=A2;have K3:=K2.trans (pX (uj x u));exact⟨_,(A2.trans A2.ni.hand).ef om,.inr rfl,K3.bl,K3.known,fun q=>by rw[sS];exact D2 q⟩
theorem NI.YP (N:NI c j M L x) (s d:Int) (hh:(g9 x.an (max x.bl s) 0).isSome=true):
 ot c j M L L x (kM x s d) (L.length+2)∧(kM x s d).bl=max x.bl s∧(kM x s d).known=true∧(kM x s d).an.done=(if(aD c j).succ∈c.nodes then max x.an.done (min d L.length)else x.an.done):=by
 have N1:NI c j M L (B9 x s):=⟨N.node,N.au,N.role,N.df,N.comes,N.log,N.st,N.sg,N.an,N.base,N.M0⟩;have A1:ot c j M L L x (B9 x s) 0:=⟨N1,List.prefix_refl _,Int.le_refl _,rfl,fun _ h=>.inl h,Nat.le_refl _⟩;have A2:ot c j M L L x (uY x s d) (L.length+1)∧(uY x s d).bl=max x.bl s∧(uY x s d).known=true∧(uY x s d).an.done=(if(aD c j).succ∈c.nodes then max x.an.done (min d L.length)else x.an.done):=by
  unfold uY;rw[N.role,N.au];split
  ·obtain⟨B1,B2⟩:=N1.done d;have K:=fV (B9 x s) d;exact⟨(A1.trans B1).ef om,K.bl,K.known,B2⟩
  ·exact⟨A1.ef om,rfl,rfl,rfl⟩
 obtain⟨A2,g2,k2,d2⟩:=A2;rw[Ax hh];split
 ·have K:=pX (uY x s d);exact⟨(A2.trans A2.ni.hand).ef om,K.bl.trans g2,K.known.trans k2,by rw[sS];exact d2⟩
 ·exact⟨A2.ef om,g2,k2,d2⟩
theorem NI.tick (N:NI c j M L x):ot c j M L L x (bB x) 1∧(bB x).bl=x.bl∧(bB x).known=x.known∧(bB x).an.done=x.an.done:=by
 unfold bB;split
 ·exact⟨(ot.refl N).ef om,rfl,rfl,rfl⟩
 split
 ·have K:=pX x;exact⟨N.hand,K.bl,K.known,by rw[sS]⟩
 ·exact⟨(ot.refl N).ef om,rfl,rfl,rfl⟩
theorem NI.SH (N:NI c j M L x) (c':CF):NI c' j M L (bm x c')∧(bm x c').base=L.length∧(bm x c').known=false∧(bm x c').bl=0∧(bm x c').an.done=(if(aD c' j).tail=true then(L.length:Int)else x.an.done)∧
 (∀m∈(bm x c').out,m∈x.out∨LK c' j L (bm x c').an.done (bm x c').base m)∧(bm x c').out.length≤x.out.length+(L.length+1):=by
 have he:=N.an.end_;have N1:NI c' j M L (nO x c'):=⟨N.node,rfl,by show aD c' x.node=_;rw[N.node],N.df,rfl,N.log,N.st,N.sg,N.an,by show 0≤aE x.an∧aE x.an≤_;rw[he];omega,N.M0⟩;have hb:(nO x c').base=L.length:=he;have hr:aD c' x.node=aD c' j:=by rw[N.node]
 unfold bm;rw[hr];split
 ·obtain⟨B1,B2⟩:=N1.done (aE (nO x c').an);have K:=fV (nO x c') (aE (nO x c').an);refine⟨B1.ni,B1.base.trans hb,K.known,K.bl,?_,B1.GK,B1.len⟩;rw[B2,N1.an.end_];have:=N1.an.de;omega
 ·exact⟨N1,hb,rfl,rfl,rfl,fun m h=>.inl h,Nat.le_add_right _ _⟩
end
def vj (l:List Int) (a b:Int):Prop:=∃i:Nat,l[i]? =some a∧l[i+1]? =some b
structure Plain (c:CF):Prop where
 right:cW c
 fresh:c.fresh=false
 join:c.join=0
 nodup:c.nodes.Nodup
 mem:∀j∈c.nodes,1≤j∧j≤5
 chain:c.chain=0
theorem mQ {l:List Int} (hn:l.Nodup) {i k:Nat} (hi:i<l.length) (hk:k<l.length) (e:l[i]=l[k]):i=k:=by
 have h:=List.pairwise_iff_getElem.1 hn;rcases Nat.lt_trichotomy i k with q|q|q
 ·exact absurd e (h i k hi hk q)
 ·exact q
 ·exact absurd e.symm (h k i hk hi q)
theorem nQ {l:List Int} (hn:l.Nodup) {i:Nat} {x:Int} (h:l[i]? =some x):ic x l=i:=by
 obtain⟨hi,rfl⟩:=List.getElem?_eq_some_iff.1 h;refine BT hi rfl fun hm=>?_;obtain⟨k,hk,e⟩:=List.mem_iff_getElem.1 hm;rw[List.getElem_take]at e;have oK:k<i:=by rw[List.length_take]at hk;omega
 have:=mQ hn (i:=k) (k:=i) om hi e;omega
theorem Plain.role {c:CF} (P:Plain c) {i:Nat} {x:Int} (h:c.nodes[i]? =some x):aD c x=⟨true,false,decide (i=0),decide (i+1=c.nodes.length),false,i,if 0<i then c.nodes.getD (i - 1) 0 else 0,if i+1=c.nodes.length then 0 else c.nodes.getD (i+1) 0⟩:=by
 have hx:=P.mem x (List.mem_of_getElem? h);have hi:=(List.getElem?_eq_some_iff.1 h).1;have hd:=nQ P.nodup h;have ht:(x=iT c)↔i+1=c.nodes.length:=by
  obtain⟨_,rfl⟩:=List.getElem?_eq_some_iff.1 h;unfold iT;rw[List.getD_eq_getElem?_getD,List.getElem?_eq_getElem (show c.nodes.length - 1<c.nodes.length by omega)];show c.nodes[i]=c.nodes[c.nodes.length - 1]↔_;constructor
  ·intro e;have:=mQ P.nodup (i:=i) (k:=c.nodes.length - 1) om om e;omega
  ·intro e;have e:i=c.nodes.length - 1:=by omega
   subst e;rfl
 unfold aD;rw[if_neg om,if_neg (by rw[P.join];omega),hd,if_pos hi];have htb:decide (x=iT c)=decide (i+1=c.nodes.length):=decide_eq_decide.2 ht;dsimp only
 rw[htb,P.fresh,P.join,Bool.and_false];simp only[decide_eq_true_eq]
theorem Plain.at_ {c:CF} (_:Plain c) {x:Int} (h:x∈c.nodes):∃i:Nat,c.nodes[i]? =some x:=by
 obtain⟨i,hi,e⟩:=List.mem_iff_getElem.1 h;exact⟨i,by rw[List.getElem?_eq_getElem hi,e]⟩
theorem lG {l:List Int} {i:Nat} (h:i<l.length):l[i]? =some (l.getD i 0):=by rw[List.getD_eq_getElem?_getD,List.getElem?_eq_getElem h];rfl
theorem Plain.succ {c:CF} (P:Plain c) {a b:Int} (ha:a∈c.nodes) (h:(aD c a).succ=b) (hb:b≠0):vj c.nodes a b:=by
 obtain⟨i,hi⟩:=P.at_ ha;have hl:=(List.getElem?_eq_some_iff.1 hi).1;rw[P.role hi]at h;have h:(if i+1=c.nodes.length then(0:Int)else c.nodes.getD (i+1) 0)=b:=h;split at h
 ·exact absurd h.symm hb
 ·exact⟨i,hi,by rw[←h];exact lG om⟩
theorem Plain.pred {c:CF} (P:Plain c) {a b:Int} (hb:b∈c.nodes) (h:(aD c b).pred=a) (ha:a≠0):vj c.nodes a b:=by
 obtain⟨i,hi⟩:=P.at_ hb;have hl:=(List.getElem?_eq_some_iff.1 hi).1;rw[P.role hi]at h;have h:(if 0<i then c.nodes.getD (i - 1) 0 else 0)=a:=h;split at h
 ·refine⟨i - 1,by rw[←h];exact lG om,by rw[show i - 1+1=i by omega];exact hi⟩
 ·exact absurd h.symm ha
theorem vj.mem {l:List Int} {a b:Int} (h:vj l a b):a∈l∧b∈l:=by
 obtain⟨i,h1,h2⟩:=h;exact⟨List.mem_of_getElem? h1,List.mem_of_getElem? h2⟩
theorem vj.role {c:CF} (P:Plain c) {a b:Int} (h:vj c.nodes a b):(aD c a).succ=b∧(aD c b).pred=a∧(aD c a).tail=false∧a≠0∧b≠0:=by
 obtain⟨i,h1,h2⟩:=h;have ha:=P.mem a (List.mem_of_getElem? h1);have hb:=P.mem b (List.mem_of_getElem? h2);have hl:=(List.getElem?_eq_some_iff.1 h2).1;rw[P.role h1,P.role h2];refine⟨?_,?_,decide_eq_false om,om,om⟩
 ·show(if i+1=c.nodes.length then(0:Int)else c.nodes.getD (i+1) 0)=b;rw[if_neg om,List.getD_eq_getElem?_getD,h2];rfl
 ·show(if 0<i+1 then c.nodes.getD (i+1 - 1) 0 else 0)=a;rw[if_pos om,List.getD_eq_getElem?_getD,Nat.add_sub_cancel,h1];rfl
theorem vj.uniq {l:List Int} (hn:l.Nodup) {a b d:Int} (h:vj l a b) (k:vj l a d):b=d:=by
 obtain⟨i,h1,h2⟩:=h;obtain⟨i',k1,k2⟩:=k;have:i=i':=by rw[←nQ hn h1,nQ hn k1]
 subst this;rw[h2]at k2;exact Option.some.inj k2
theorem vj.YQ {l:List Int} (hn:l.Nodup) {a b d:Int} (h:vj l a b) (k:vj l d b):a=d:=by
 obtain⟨i,h1,h2⟩:=h;obtain⟨i',k1,k2⟩:=k;have:i+1=i'+1:=by rw[←nQ hn h2,nQ hn k2]
 obtain rfl:i=i':=by omega
 rw[h1]at k1;exact Option.some.inj k1
def Cq (l:List Int) (a b:Int):Prop:=∃i k:Nat,i<k∧l[i]? =some a∧l[k]? =some b
theorem vj.IC {l:List Int} {a b:Int} (h:vj l a b):Cq l a b:=by
 obtain⟨i,h1,h2⟩:=h;exact⟨i,i+1,om,h1,h2⟩
theorem Cq.pred {l:List Int} {a b:Int} (h:Cq l a b):∃p,vj l p b∧(a=p∨Cq l a p):=by
 obtain⟨i,k,h1,h2,h3⟩:=h;have hk:=(List.getElem?_eq_some_iff.1 h3).1;refine⟨l.getD (k - 1) 0,⟨k - 1,lG om,by rw[show k - 1+1=k by omega];exact h3⟩,?_⟩;rcases Nat.lt_or_ge i (k - 1)with q|q
 ·exact .inr ⟨i,k - 1,q,h2,lG om⟩
 ·obtain rfl:i=k - 1:=by omega
  have:=lG (l:=l) (i:=k - 1) om;rw[h2]at this;exact .inl (Option.some.inj this)
theorem Cq.succ {l:List Int} {a b:Int} (h:Cq l a b):∃s,vj l a s∧(b=s∨Cq l s b):=by
 obtain⟨i,k,h1,h2,h3⟩:=h;have hk:=(List.getElem?_eq_some_iff.1 h3).1;refine⟨l.getD (i+1) 0,⟨i,h2,lG om⟩,?_⟩;rcases Nat.lt_or_ge (i+1) k with q|q
 ·exact .inr ⟨i+1,k,q,lG om,h3⟩
 ·obtain rfl:k=i+1:=by omega
  have:=lG (l:=l) (i:=i+1) om;rw[h3]at this;exact .inl (Option.some.inj this)
theorem Cq.mem {l:List Int} {a b:Int} (h:Cq l a b):a∈l∧b∈l:=by
 obtain⟨i,k,_,h1,h2⟩:=h;exact⟨List.mem_of_getElem? h1,List.mem_of_getElem? h2⟩
theorem Cq.ne {l:List Int} (hn:l.Nodup) {a b:Int} (h:Cq l a b):a≠b:=by
 obtain⟨i,k,h1,h2,h3⟩:=h;rintro rfl;have:i=k:=by rw[←nQ hn h2,nQ hn h3]
 omega
theorem Cq.sub {l m:List Int} (hs:m.Sublist l) (_:l.Nodup) {a b:Int} (h:Cq m a b):Cq l a b:=by
 obtain⟨i,k,h1,h2,h3⟩:=h;have hp:(m.Pairwise fun a b=>Cq l a b):=by
  refine List.Pairwise.sublist hs (List.pairwise_iff_getElem.2 fun i k hi hk Xd=>?_);exact⟨i,k,Xd,List.getElem?_eq_getElem hi,List.getElem?_eq_getElem hk⟩
 have hi:=(List.getElem?_eq_some_iff.1 h2).1;have hk:=(List.getElem?_eq_some_iff.1 h3).1;have:=List.pairwise_iff_getElem.1 hp i k hi hk h1;rw[(List.getElem?_eq_some_iff.1 h2).2,(List.getElem?_eq_some_iff.1 h3).2]at this;exact this
def nd (all:List RS) (j:Int):RS:=(all[(j - 1).toNat]?).getD (abZ 0)
structure CS where
 c:CF
 all:List RS
 said:List Lr
 num:Int
def Shp (m:Lr):Prop:=(oq m.DY∧oq m.to∧1≤m.aB)∧
 ((∃s d us,m=rD m.DY m.to 0 m.aB s d us∧us.length≤4∧us.all (okW false)=true)∨∃s d,m=pS m.DY m.to 0 m.aB 0 s d 0)
structure c9 (n:Nat) (w:CS) (g:Int→List bo):Prop where
 pl:Plain w.c
 len:w.all.length=n
 vk:∀j∈w.c.nodes,j≤n
 num:0≤w.num
 ni:∀j∈w.c.nodes,NI w.c j w.num (g j) (nd w.all j)∧(nd w.all j).out=[]∧((g j).length:Int)≤w.num
 ah:∀a b,Cq w.c.nodes a b→g b<+:g a∧(nd w.all a).an.done≤(nd w.all b).an.done
 nx:∀a b,vj w.c.nodes a b→((nd w.all a).known=true→(nd w.all b).base≤(nd w.all a).bl∧(nd w.all a).bl≤(g b).length)∧((nd w.all a).an.done≤(nd w.all b).base∨((nd w.all a).known=true∧(nd w.all a).an.done≤(nd w.all a).bl))
 k0:∀j∈w.c.nodes,(nd w.all j).known=false→(nd w.all j).bl=0
 said:∀m∈w.said,(m.kind=18∧200≤m.to)∨(Shp m∧m.aB≤w.c.aB∧(m.aB=w.c.aB→∃j∈w.c.nodes,LK w.c j (g j) (nd w.all j).an.done (nd w.all j).base m))
theorem Cb {all:List RS} {j k:Int} {y:RS} (hj:1≤j∧j≤all.length) (hk:1≤k):nd (all.set (j - 1).toNat y) k=if k=j then y else nd all k:=by
 unfold nd;by_cases e:k=j
 ·subst e;rw[if_pos rfl,List.getElem?_set_self om];rfl
 ·rw[if_neg e,List.getElem?_set_ne om]
theorem UG.okW {M:Int} {u:bo} (h:UG M u) (hs:1≤u.seq):Go.M.okW false u=true:=by
 rw[Ig];have h1:=h.ak;have h2:=h.num;have h3:=h.data;unfold Qb;simp only[Bool.and_eq_true,Bool.not_eq_true',decide_eq_true_eq,decide_eq_false_iff_not];exact⟨om,h.ak,h.num.1,.inl ⟨h.kind,h.cB⟩,h.data⟩
theorem LG.seq1 {M:Int} {L:List bo} (h:LG M L) {u:bo} (hu:u∈L):1≤u.seq∧u.seq≤L.length:=by
 obtain⟨i,hi,e⟩:=List.mem_iff_getElem.1 hu;have:=h.seq i u (by rw[List.getElem?_eq_getElem hi,e]);omega
theorem LK.shp {c:CF} (P:Plain c) {j M:Int} (hj:j∈c.nodes) {L:List bo} (hL:LG M L) {d b:Int} {m:Lr} (h:LK c j L d b m):(m.kind=18∧200≤m.to)∨(Shp m∧m.aB=c.aB):=by
 have hje:=P.mem j hj;have OI:=P.right.2.1;rcases h with h|⟨s,dd,us,h1,h2,h3,h4⟩|⟨s,dd,h1,h2,_⟩
 ·exact .inl h
 ·obtain⟨_,hs⟩:=(P.succ hj rfl h2).mem;have hk:=P.mem _ hs;rw[P.chain]at h1;refine .inr ⟨⟨⟨by rw[h1];exact .inl (by show 1≤j∧j≤24;omega),by rw[h1];exact .inl (by show 1≤(aD c j).succ∧(aD c j).succ≤24;omega),by rw[h1];exact OI⟩,.inl ⟨s,dd,us,by rw[h1],h3,List.all_eq_true.2 fun u hu=>(hL.ok u (h4 u hu)).okW (hL.seq1 (h4 u hu)).1⟩⟩,by rw[h1]⟩
 ·obtain⟨hs,_⟩:=(P.pred hj rfl h2).mem;have hk:=P.mem _ hs;rw[P.chain]at h1;refine .inr ⟨⟨⟨by rw[h1];exact .inl (by show 1≤j∧j≤24;omega),by rw[h1];exact .inl (by show 1≤(aD c j).pred∧(aD c j).pred≤24;omega),by rw[h1];exact OI⟩,.inr ⟨s,dd,by rw[h1]⟩⟩,by rw[h1]⟩
section
variable {n:Nat} {w:CS} {g:Int→List bo}
theorem c9.hc (I:c9 n w g) {j:Int} (hj:j∈w.c.nodes):HC (nd w.all j) (g j).length:=by
 obtain⟨N,_,_⟩:=I.ni j hj;by_cases hs:(nd w.all j).role.succ=0
 ·exact .inl hs
 cases hk:(nd w.all j).known with
 |false=>exact .inr (.inl hk)
 |true=>
  have hn:=I.pl.succ hj rfl (by rw[←N.role];exact hs);obtain⟨h1,h2⟩:=I.nx _ _ hn;obtain⟨h3,h4⟩:=h1 hk;have h5:=(I.ah _ _ hn.IC).1.length_le;refine .inr (.inr ⟨?_,om⟩);rcases h2 with h2|⟨_,h2⟩<;>omega
theorem c9.op (I:c9 n w g) {j M':Int} (hj:j∈w.c.nodes) (hM:w.num≤M') {L':List bo} {y:RS} {k:Nat} (A:ot w.c j M' (g j) L' (nd w.all j) y k) (hL:(L'.length:Int)≤M')
 (Rj:∀p,vj w.c.nodes p j→L'<+:g p) (GD:∀b,vj w.c.nodes j b→y.an.done≤(nd w.all b).an.done)
 (vJ:∀b,vj w.c.nodes j b→(y.known=true→(nd w.all b).base≤y.bl∧y.bl≤(g b).length)∧(y.an.done≤(nd w.all b).base∨(y.known=true∧y.an.done≤y.bl)))
 (IW:y.known=false→y.bl=0) {mR:List Lr} (hs:∀m∈mR,m∈w.said):c9 n ⟨w.c,w.all.set (j - 1).toNat (a6 y),mR++y.out,M'⟩ (fun i=>if i=j then L' else g i):=by
 have OJ:=I.pl.mem j hj;have Wh:=I.vk j hj;have hlen:=I.len;have lq:∀i∈w.c.nodes,nd (w.all.set (j - 1).toNat (a6 y)) i=if i=j then a6 y else nd w.all i:=fun i hi=>Cb om (I.pl.mem i hi).1
 have EY:(nd w.all j).out=[]:=(I.ni j hj).2.1;refine⟨I.pl,by rw[List.length_set];exact hlen,I.vk,by have:=I.num;show 0≤M';omega,fun i hi=>?_,fun a b uO=>?_,fun a b uO=>?_,fun i hi=>?_,fun m hm=>?_⟩
 ·rw[lq i hi];by_cases e:i=j
  ·subst e;rw[if_pos rfl,if_pos rfl];have N:=A.ni;exact⟨⟨N.node,N.au,N.role,N.df,N.comes,N.log,N.st,N.sg,N.an,N.base,N.M0⟩,rfl,hL⟩
  ·rw[if_neg e,if_neg e];obtain⟨N,h1,h2⟩:=I.ni i hi;exact⟨N.mono hM,h1,by show((g i).length:Int)≤M';omega⟩
 ·obtain⟨ha,hb⟩:=uO.mem;have bj:=uO.ne I.pl.nodup;show(if b=j then L' else g b)<+:(if a=j then L' else g a)∧_;rw[lq a ha,lq b hb];obtain⟨h1,h2⟩:=I.ah a b uO;by_cases ea:a=j
  ·subst ea;have eb:¬b=a:=fun q=>bj q.symm;rw[if_pos rfl,if_neg eb,if_pos rfl,if_neg eb];refine⟨h1.trans A.pre,?_⟩;obtain⟨s,q1,q2⟩:=uO.succ;have:=GD s q1;show y.an.done≤_;rcases q2 with rfl |q2
   ·exact this
   ·exact Int.le_trans this (I.ah _ _ q2).2
  ·by_cases eb:b=j
   ·subst eb;rw[if_pos rfl,if_neg ea,if_pos rfl,if_neg ea];refine⟨?_,Int.le_trans h2 A.done⟩;obtain⟨p,q1,q2⟩:=uO.pred;have:=Rj p q1;rcases q2 with rfl |q2
    ·exact this
    ·exact this.trans (I.ah _ _ q2).1
   ·rw[if_neg eb,if_neg ea,if_neg ea,if_neg eb];exact⟨h1,h2⟩
 ·obtain⟨ha,hb⟩:=uO.mem;have bj:=uO.IC.ne I.pl.nodup;show(_→_∧_≤((if b=j then L' else g b).length:Int))∧_;rw[lq a ha,lq b hb];by_cases ea:a=j
  ·subst ea;have eb:¬b=a:=fun q=>bj q.symm;rw[if_pos rfl,if_neg eb,if_neg eb];exact vJ b uO
  ·by_cases eb:b=j
   ·subst eb;rw[if_pos rfl,if_neg ea,if_pos rfl];obtain⟨h1,h2⟩:=I.nx a b uO;have bL:(a6 y).base=(nd w.all b).base:=A.base;rw[bL];exact⟨fun q=>⟨(h1 q).1,by have:=(h1 q).2;have:=A.pre.length_le;omega⟩,h2⟩
   ·rw[if_neg eb,if_neg ea,if_neg eb];exact I.nx a b uO
 ·rw[lq i hi];by_cases e:i=j
  ·rw[if_pos e];exact IW
  ·rw[if_neg e];exact I.k0 i hi
 ·have bk:∀i∈w.c.nodes,∀m,LK w.c i (g i) (nd w.all i).an.done (nd w.all i).base m→LK w.c i (if i=j then L' else g i) (nd (w.all.set (j - 1).toNat (a6 y)) i).an.done (nd (w.all.set (j - 1).toNat (a6 y)) i).base m:=fun i hi m h=>by
   rw[lq i hi];by_cases e:i=j
   ·subst e;rw[if_pos rfl,if_pos rfl];show LK w.c i L' y.an.done y.base m;rw[A.base];exact h.mono A.pre A.done
   ·rw[if_neg e,if_neg e];exact h
  rcases List.mem_append.1 hm with q|q
  ·rcases I.said m (hs m q)with r|⟨r1,r2,r3⟩
   ·exact .inl r
   ·exact .inr ⟨r1,r2,fun e=>by
     obtain⟨i,hi,hl⟩:=r3 e;exact⟨i,hi,bk i hi m hl⟩⟩
  ·rcases A.GK m q with r|r
   ·rw[EY]at r;cases r
   ·rcases r.shp I.pl hj A.ni.log with s|⟨s1,s2⟩
    ·exact .inl s
    ·refine .inr ⟨s1,by rw[s2];exact Int.le_refl _,fun _=>⟨j,hj,?_⟩⟩;rw[lq j hj,if_pos rfl,if_pos rfl];exact r
end
theorem Cc (x:RS) (f t ch e:Int) (u:bo) (H:sL x.an) (GD:x.an.done≤aE x.an) (ho:x.df=true) (hj:bQ x.st.t u.ak u.num=0) (hd:¬iE x.an<16):
 VC E0 27 1 [.ptr 0 0,.agg (ai (Af f t ch e [u]))] (gA x) (RR (.cY []) 1 (gA x)):=by
 have YB:=yd x.st u.ak u.num;rw[hj]at YB;have vp:=Eh x.an H GD;rw[decide_eq_false hd]at vp;obtain⟨node,au,role,st,an,base,df,bl,known,want,comes,out⟩:=x;have ho:df=true:=ho;subst ho;refine en L0 Tryz.f27 ?_;refine⟨b7 u,⟨by decide,rfl⟩,?_⟩;refine wh ?_;refine⟨[],[some 3],_,_,_,_,YB,t3,cw ?_⟩
 repeat((first|(refine⟨fun h_=>?_,fun h_=>?_⟩)|(refine ba (fun h_=>?_) (fun h_=>?_))|(refine a9 (fun h_=>?_) (fun h_=>?_)))<;>first|(exfalso;revert h_;decide;done)|(exact absurd rfl h_)|(have eo:=True.intro;clear eo;(conv=>whnf)))
 refine⟨[],[some 5],_,_,_,_,vp,t3,cw ?_⟩;exact⟨[],[some 0],_,_,_,t3,rfl,rfl,rfl⟩
theorem Ez (x:RS) (f:Int) (u:bo) (H:cW x.au) (hf:201≤f∧f≤206) (hn:oq x.node) (hu:okW true u=true) (h:(aD x.au x.node).head=true)
 (Hw:sL x.an) (GD:x.an.done≤aE x.an) (ho:x.df=true) (hj:bQ x.st.t u.ak u.num=0) (hd:¬iE x.an<16):
 VC E0 8 1 [.ptr 0 0,.agg (ai (Af f x.node x.au.chain x.au.aB [u]))] (gA x) (nY x):=by
 have Ra:=Iy x.au H x.node f u hf hn hu h;have Pe:=Cc x f x.node x.au.chain x.au.aB u Hw GD ho hj hd;refine en L0 Tryz.f8 ?_;refine⟨[],[],_,_,_,_,Ra,t3,cw ?_⟩
 ((first|(refine⟨fun h_=>?_,fun h_=>?_⟩)|(refine ba (fun h_=>?_) (fun h_=>?_))|(refine a9 (fun h_=>?_) (fun h_=>?_)))<;>first|(exfalso;revert h_;decide;done)|(exact absurd rfl h_)|(have eo:=True.intro;clear eo;((conv=>whnf)<;>repeat(with_reducible refine D1 ?_)<;>conv=>whnf)))
 refine sp ?_ ?_<;>intro U7
 ·refine wh ?_;refine⟨[],[some 0],_,_,_,_,Pe,t3,cw ?_⟩;refine⟨[],[some 0],_,_,_,_,dm x,t3,cw ?_⟩;exact⟨[],[some 0,some 4],_,_,_,t3,rfl,rfl,rfl⟩
 ·exact absurd rfl U7
theorem GL (c:CF) (H:cW c) (node f ep s d:Int) (us:List bo) (hf:oq f) (hn:oq node) (Vc:1≤ep) (hl:us.length≤4) (hu:us.all (okW false)=true) (he:ep≠c.aB):
 VC E0 25 0 [.agg (bS c),.s (.int .i64 node),.agg (ai (rD f node c.chain ep s d us))] [] (RR (.s (.int .i64 10)) 0 []):=by
 have sX:=ue f node c.chain ep s d us hf hn H.1 Vc hl;rw[if_pos hu]at sX;refine en L0 Tryz.f25 ?_;refine⟨[],[],_,_,_,_,sX,t3,cw ?_⟩
 repeat((first|(refine⟨fun h_=>?_,fun h_=>?_⟩)|(refine ba (fun h_=>?_) (fun h_=>?_))|(refine a9 (fun h_=>?_) (fun h_=>?_)))<;>first|(exfalso;revert h_;decide;done)|(exact absurd rfl h_)|(have eo:=True.intro;clear eo;(conv=>whnf)))
 refine⟨[],[],_,_,_,_,pq c H,t3,cw ?_⟩;refine⟨[],[],_,_,_,_,mN 12 (.inl rfl),t3,cw ?_⟩
 ((first|(refine⟨fun h_=>?_,fun h_=>?_⟩)|(refine ba (fun h_=>?_) (fun h_=>?_))|(refine a9 (fun h_=>?_) (fun h_=>?_)))<;>first|(exfalso;revert h_;decide;done)|(exact absurd rfl h_)|(have eo:=True.intro;clear eo;(conv=>whnf)))
 refine sp ?_ ?_<;>intro OI;rotate_left
 ·exact absurd he OI
 refine wh ?_;exact⟨[],[],_,_,_,t3,rfl,rfl,rfl⟩
theorem GM (c:CF) (H:cW c) (node f ep n s d sl:Int) (hf:oq f) (hn:oq node) (Vc:1≤ep) (yN:0≤sl∧sl≤512) (he:ep≠c.aB):
 VC E0 25 0 [.agg (bS c),.s (.int .i64 node),.agg (ai (pS f node c.chain ep n s d sl))] [] (RR (.s (.int .i64 10)) 0 []):=by
 have sX:=D7 f node c.chain ep n s d sl hf hn H.1 Vc yN;refine en L0 Tryz.f25 ?_;refine⟨[],[],_,_,_,_,sX,t3,cw ?_⟩
 repeat((first|(refine⟨fun h_=>?_,fun h_=>?_⟩)|(refine ba (fun h_=>?_) (fun h_=>?_))|(refine a9 (fun h_=>?_) (fun h_=>?_)))<;>first|(exfalso;revert h_;decide;done)|(exact absurd rfl h_)|(have eo:=True.intro;clear eo;(conv=>whnf)))
 refine⟨[],[],_,_,_,_,pq c H,t3,cw ?_⟩;refine⟨[],[],_,_,_,_,mN 13 (.inr (.inl rfl)),t3,cw ?_⟩
 ((first|(refine⟨fun h_=>?_,fun h_=>?_⟩)|(refine ba (fun h_=>?_) (fun h_=>?_))|(refine a9 (fun h_=>?_) (fun h_=>?_)))<;>first|(exfalso;revert h_;decide;done)|(exact absurd rfl h_)|(have eo:=True.intro;clear eo;(conv=>whnf)))
 refine sp ?_ ?_<;>intro OI;rotate_left
 ·exact absurd he OI
 refine wh ?_;exact⟨[],[],_,_,_,t3,rfl,rfl,rfl⟩
theorem Rk (x:RS) (m:Lr) (Ra:VC E0 25 0 [.agg (bS x.au),.s (.int .i64 x.node),.agg (ai m)] [] (RR (.s (.int .i64 10)) 0 [])):
 VC E0 8 1 [.ptr 0 0,.agg (ai m)] (gA x) (RR (.sl 0 [] true) 1 (gA x)):=by
 refine en L0 Tryz.f8 ?_;refine⟨[],[],_,_,_,_,Ra,t3,cw ?_⟩
 repeat((first|(refine⟨fun h_=>?_,fun h_=>?_⟩)|(refine ba (fun h_=>?_) (fun h_=>?_))|(refine a9 (fun h_=>?_) (fun h_=>?_)))<;>first|(exfalso;revert h_;decide;done)|(exact absurd rfl h_)|(have eo:=True.intro;clear eo;((conv=>whnf)<;>repeat(with_reducible refine D1 ?_)<;>conv=>whnf)))
 exact⟨[],[some 0],_,_,_,t3,rfl,rfl,rfl⟩
section
variable {c:CF} {j M:Int} {L:List bo} {x:RS}
theorem NI.ym (N:NI c j M L x) (hL:L.length≤5000) (_:M≤40000) (ho:x.out.length<50000):e7 x:=by
 have h1:=N.an.low;have h2:=N.an.ld;have h3:=N.an.de;have he:=N.an.end_;have hse:=N.e;refine⟨⟨om,om,?_,fun u hu=>?_⟩,N.sg.sok om,N.sg.OC,om,by omega,by have:=N.sg.len;omega,ho⟩
 ·rw[N.an.l,List.length_drop];omega
 ·rw[N.an.l]at hu;exact(N.log.ok u (List.mem_of_mem_drop hu)).data
theorem NI.uo (N:NI c j M L x) (h:HC x L.length) (hL:L.length≤5000) (hM:M≤40000) (ho:x.out.length<50000):jf x:=⟨(N.ym hL hM ho).an,ho,h.from_ N 4⟩
theorem NI.YR (N:NI c j M L x) {u:bo} (hu:UG M u) (hs:u.seq=(L.length:Int)+1) (hL:L.length≤5000) (hM:M≤40000):Er x u:=by
 have h1:=hu.num;have h2:=hu.cB;have h3:=hu.key;refine⟨⟨om,om,by omega,om⟩,hu.YA om,by rw[N.an.end_];omega,om,?_⟩;rw[N.an.l,List.length_drop];omega
theorem Plain.oq {c:CF} (P:Plain c) {j:Int} (hj:j∈c.nodes):Go.M.oq j:=.inl (by have:=P.mem j hj;omega)
theorem Plain.GN {c:CF} (P:Plain c) {j:Int} (hj:j∈c.nodes):(aD c j).jY=false∧((aD c j).tail=true→(aD c j).succ=0):=by
 obtain⟨i,hi⟩:=P.at_ hj;rw[P.role hi];refine⟨rfl,fun h=>?_⟩;have h:i+1=c.nodes.length:=by simpa using h
 show(if i+1=c.nodes.length then(0:Int)else _)=0;rw[if_pos h]
theorem HC.bk {x y:RS} {n m:Nat} (h:HC x n) (K:fX x y) (hd:x.role.succ=0∨y.an.done=x.an.done) (hn:n≤m):HC y m:=by
 rcases h with h|h|⟨h1,h2⟩
 ·exact .inl (by rw[K.role];exact h)
 ·exact .inr (.inl (by rw[K.known];exact h))
 ·rcases hd with hd|hd
  ·exact .inl (by rw[K.role];exact hd)
  ·exact .inr (.inr ⟨by rw[hd,K.bl];exact h1,by rw[K.bl];omega⟩)
theorem NI.ab1 (N:NI c j M L x) (P:Plain c) (hj:j∈c.nodes) (hc:HC x L.length) (hL:L.length≤3000) (hM:M≤40000) (ho:x.out=[]) {f s d:Int} {us:List bo} (hf:Go.M.oq f) (ZH:us.length≤4)
 (hu:∀u∈us,UG M u∧1≤u.seq∧u.seq≤40000) (hp:(aD c j).pred≠0∧f=(aD c j).pred):
 VC E0 8 1 [.ptr 0 0,.agg (ai (rD f j c.chain c.aB s d us))] (gA x) (nY (pe x d us)):=by
 have ZI:∀u∈us,UG M u:=fun u h=>(hu u h).1;obtain⟨GO,qk⟩:=P.GN hj;obtain⟨A1,K1,D1⟩:=N.fE us ZI;obtain⟨A2,K2,D2⟩:=N.nT us ZI GO;have qA:=pr us L.length;have hlen:(L++bt us L.length).length≤5000:=by rw[List.length_append];omega
 have hll:L.length≤(L++bt us L.length).length:=by rw[List.length_append];omega
 have e3:=N.B4 d us P.fresh;have o1:=A1.len;have o2:=A2.len;rw[ho]at o1 o2;have G1:e7 (Go.M.fE x us):=A1.ni.ym hlen hM (by simp at o1;simp[o1]);have G3:e7 (Go.M.nT x us):=A2.ni.ym hlen hM (by simp at o2;omega);have A3:=A2.ni.ack;have D3:(gL (Go.M.nT x us)).an.done=(Go.M.nT x us).an.done:=by unfold gL;split<;>rfl
 have Rx:HC (gL (Go.M.nT x us)) (L++bt us L.length).length:=hc.bk (K2.trans (yf _)) (by
  rw[D3,D2];cases ht:(aD c j).tail with
  |true=>exact .inl (by rw[N.role];exact qk ht)
  |false=>exact .inr (by rw[if_neg Bool.noConfusion])) hll
 have G2:jf (gL (Go.M.B4 x d us)):=by
  rw[e3];exact A3.ni.uo Rx hlen hM (by have:=A3.len;simp at o2;omega)
 have sH:∀(i:Nat) (h:i<(bt us (aE x.an)).length),e7 (((bt us (aE x.an)).take i).foldl rC x)∧Er (((bt us (aE x.an)).take i).foldl rC x) (bt us (aE x.an))[i]:=by
  rw[N.an.end_];intro i hi;have qG:∀u∈(bt us (L.length:Int)).take i,UG M u:=fun u h=>ZI u (mO _ _ u (List.mem_of_mem_take h));have A:=NI.ups ((bt us (L.length:Int)).take i) N qG (fun k u hk=>by
   rw[List.getElem?_take]at hk;split at hk
   ·exact mP _ _ k u hk
   ·cases hk)
  have sY:(L++(bt us (L.length:Int)).take i).length=L.length+i:=by rw[List.length_append,List.length_take];omega
  have oa:=A.len;rw[ho]at oa;refine⟨A.ni.ym om hM (by simp at oa;simp[oa]),A.ni.YR (ZI _ (mO _ _ _ (List.getElem_mem hi))) ?_ om hM⟩;have:=mP us L.length i _ (List.getElem?_eq_getElem hi);rw[sY];omega
 have hd:∀u∈us,u.data.length≤2048∧Nr u:=fun u h=>by
  obtain⟨a1,a2,a3⟩:=hu u h;have h1:=a1.num;have h2:=a1.cB;have h3:=a1.key;exact⟨a1.data,⟨om,om,by omega,om⟩⟩
 have hw:us.all (okW false)=true:=List.all_eq_true.2 fun u h=>(hu u h).1.okW (hu u h).2.1;have V:=Kx x f s d us (by rw[N.au];exact P.right) hf (by rw[N.node];exact P.oq hj) hw (by rw[N.au,N.node];exact hp) (N.ym om hM (by rw[ho];decide)) (fun _=>by rw[N.role];exact GO) ZH hd sH G1 G2 G3;rw[N.node,N.au]at V;exact V
theorem NI.ab3 (N:NI c j M L x) (P:Plain c) (hj:j∈c.nodes) (hL:L.length≤3000) (hM:M≤40000) (ho:x.out=[]) {f s d:Int} (hf:Go.M.oq f) (hs:0≤d∧d≤s) (yG:(aD c j).succ≠0∧f=(aD c j).succ)
 (hg:x.an.done≤max x.bl s∧max x.bl s≤L.length):VC E0 8 1 [.ptr 0 0,.agg (ai (pS f j c.chain c.aB 0 s d 0))] (gA x) (nY (kM x s d)):=by
 have hld:=N.an.ld;have hh:(g9 x.an (max x.bl s) 0).isSome=true:=by
  unfold g9;rw[if_neg (by rw[N.an.end_];omega)];rfl
 have N1:NI c j M L (B9 x s):=⟨N.node,N.au,N.role,N.df,N.comes,N.log,N.st,N.sg,N.an,N.base,N.M0⟩;have G1:e7 (B9 x s):=N1.ym om hM (by show x.out.length<_;rw[ho];decide);have G2:jf (uY x s d):=by
  unfold uY;split
  ·obtain⟨B1,B2⟩:=N1.done d;have K:=fV (B9 x s) d;have o:=B1.len;refine B1.ni.uo (.inr (.inr ⟨?_,by rw[K.bl];exact hg.2⟩)) om hM (by have:(B9 x s).out=[]:=ho;rw[this]at o;simp at o;omega);rw[B2,K.bl];show max x.an.done (min d L.length)≤max x.bl s;omega
  ·exact N1.uo (.inr (.inr hg)) om hM (by show x.out.length<_;rw[ho];decide)
 have V:=Ky x f 0 s d 0 (by rw[N.au];exact P.right) hf (by rw[N.node];exact P.oq hj) (by decide) (by rw[N.au,N.node];exact yG) (N.ym om hM (by rw[ho];decide)).an G1 hh ⟨hs.1,om⟩ G2;rw[N.node,N.au]at V;exact V
theorem NI.ab4 (N:NI c j M L x) (P:Plain c) (hj:j∈c.nodes) (hc:HC x L.length) (hL:L.length≤3000) (hM:M≤40000) (ho:x.out=[]) {f:Int} {u:bo} (hf:201≤f∧f≤206) (hu:UG M {u with seq:=(L.length:Int)+1}) (hu0:u.seq=0)
 (hh:(aD c j).head=true) (Vd:bQ x.st.t u.ak u.num=0):VC E0 8 1 [.ptr 0 0,.agg (ai (Af f j c.chain c.aB [u]))] (gA x) (nY (gz x u)):=by
 obtain⟨GO,qk⟩:=P.GN hj;have hw:okW true u=true:=by
  have h1:=hu.ak;have h2:=hu.num;have h3:=hu.data;unfold okW;simp only[Bool.and_eq_true,beq_iff_eq,decide_eq_true_eq];exact⟨by rw[decide_eq_true hu0],hu.ak,hu.num.1,.inl ⟨hu.kind,hu.cB⟩,hu.data⟩
 have hG:=N.ym om hM (by rw[ho];decide);by_cases hd:iE x.an<16;rotate_left
 ·have e:gz x u=x:=by
   unfold gz;rw[if_neg (by rw[N.df];exact Bool.noConfusion),if_neg (by rw[Vd];decide),if_pos Vd,if_neg hd]
  rw[e];have V:=Ez x f u (by rw[N.au];exact P.right) hf (by rw[N.node];exact P.oq hj) hw (by rw[N.au,N.node];exact hh) hG.an hG.dn N.df Vd hd;rw[N.node,N.au]at V;exact V
 have e1:jg x u=rC x {u with seq:=(L.length:Int)+1}:=by
  show rC x (u2 x u)=_;unfold u2;rw[N.an.end_]
 have eu:u2 x u={u with seq:=(L.length:Int)+1}:=by unfold u2;rw[N.an.end_]
 have A1:=N.up (u:={u with seq:=(L.length:Int)+1}) hu rfl;rw[←e1]at A1;have K1:fX x (jg x u):=B3 x _;have OH:(jg x u).an.done=x.an.done:=by rw[e1];exact(N.an.add (u:={u with seq:=(L.length:Int)+1}) hu rfl).2
 have CH:(L++[{u with seq:=(L.length:Int)+1}]).length=L.length+1:=by rw[List.length_append];rfl
 have o1:(jg x u).out=[]:=ho;have G1:e7 (jg x u):=A1.ni.ym om hM (by rw[o1];decide);have G2:jf (uj x u):=by
  cases ht:(aD c j).tail with
  |true=>
   have e:uj x u=cA (jg x u) (aE (jg x u).an):=if_pos (by rw[N.role];exact ht);rw[e];obtain⟨B1,B2⟩:=A1.ni.done (aE (jg x u).an);have o2:=B1.len;exact B1.ni.uo (hc.bk (K1.trans (fV _ _)) (.inl (by rw[N.role];exact qk ht)) om) om hM (by rw[o1]at o2;have o3:(cA (jg x u) (aE (jg x u).an)).out.length≤0+((L++[{u with seq:=(L.length:Int)+1}]).length+1):=o2;omega)
  |false=>
   have e:uj x u=jg x u:=if_neg (by rw[N.role,ht];exact Bool.noConfusion);rw[e];exact A1.ni.uo (hc.bk K1 (.inr OH) om) om hM (by rw[o1];decide)
 have V:=Kz x f u (by rw[N.au];exact P.right) hf (by rw[N.node];exact P.oq hj) hw (by rw[N.au,N.node];exact hh) hG N.df Vd hd (by rw[eu];exact N.YR hu rfl om hM) G1 G2;rw[N.node,N.au]at V;exact V
theorem NI.yp (N:NI c j M L x) (P:Plain c) (hc:HC x L.length) (hL:L.length≤3000) (hM:M≤40000) (ho:x.out=[]):VC E0 17 1 [.ptr 0 0] (gA x) (Ay x):=by
 have G:=N.ym om hM (by rw[ho];decide);exact Q7 x (by rw[N.au];have:=P.right.2.2.1;omega) G.an G.dn (N.uo hc om hM (by rw[ho];decide))
theorem NI.Rl (N:NI c j M L x) {c':CF} (P':Plain c') (_:j∈c'.nodes) (hL:L.length≤3000) (hM:M≤40000) (ho:x.out=[]) (h0:c.aB≠0) (h1:c.chain=c'.chain) (h2:c.aB<c'.aB):
 VC E0 21 1 [.ptr 0 0,.agg (bS c')] (gA x) (RR (.cY [.tk 1,.s (.bool true)]) 2 [(0,kP (a6 (bm x c'))),(1,.arr 25 true ((bm x c').out.map ai))]):=by
 have N1:NI c' j M L (nO x c'):=⟨N.node,rfl,by show aD c' x.node=_;rw[N.node],N.df,rfl,N.log,N.st,N.sg,N.an,by show 0≤aE x.an∧aE x.an≤_;rw[N.an.end_];omega,N.M0⟩;exact OG x c' P'.right (N1.ym om hM (by show x.out.length<_;rw[ho];decide)) (.inr (by rw[N.au];exact⟨h0,h1,h2⟩))
end
theorem GP {p l G:List bo} (hp:p<+:G) (h:∀(k:Nat) u,l[k]? =some u→G[p.length+k]? =some u):p++l<+:G:=by
 obtain⟨q,rfl⟩:=hp;have h2:∀(k:Nat) u,l[k]? =some u→q[k]? =some u:=fun k u hk=>by
  have:=h k u hk
  rwa [List.getElem?_append_right om,Nat.add_sub_cancel_left]at this
 have:l<+:q:=by
  clear h
  induction l generalizing q with
  |nil=>exact List.nil_prefix
  |cons u l ih=>
   have h0:=h2 0 u rfl;cases q with
   |nil=>cases h0
   |cons v q=>
    simp at h0;subst h0;exact(List.cons_prefix_cons).2 ⟨rfl,ih q fun k u hk=>by simpa using h2 (k+1) u (by simpa using hk)⟩
 exact(List.prefix_append_right_inj p).2 this
section
variable {n:Nat} {w:CS} {g:Int→List bo}
theorem c9.tick (I:c9 n w g) {j:Int} (hj:j∈w.c.nodes):∃g',c9 n ⟨w.c,w.all.set (j - 1).toNat (a6 (bB (nd w.all j))),w.said++(bB (nd w.all j)).out,w.num⟩ g':=by
 obtain⟨N,ho,hl⟩:=I.ni j hj;obtain⟨A,h1,h2,h3⟩:=N.tick;refine⟨_,I.op hj (Int.le_refl _) A hl (fun p hp=>(I.ah _ _ hp.IC).1) (fun b hb=>by rw[h3];exact(I.ah _ _ hb.IC).2) (fun b hb=>?_) (by rw[h1,h2];exact I.k0 j hj) (fun m h=>h)⟩;rw[h1,h2,h3];exact I.nx _ _ hb
theorem c9.yp (I:c9 n w g) {j:Int} (hj:j∈w.c.nodes) (hb:w.num≤2000):VC E0 17 1 [.ptr 0 0] (gA (nd w.all j)) (Ay (nd w.all j)):=by
 obtain⟨N,ho,hl⟩:=I.ni j hj;exact N.yp I.pl (I.hc hj) om om ho
theorem c9.take (I:c9 n w g) (hb:w.num≤2000) {m:Lr} (hm:m∈w.said) {j:Int} (dV:m.to=j) (hj:j∈w.c.nodes) {mR:List Lr} (hs:∀m∈mR,m∈w.said):
 ∃y g',(VC E0 8 1 [.ptr 0 0,.agg (ai m)] (gA (nd w.all j)) (nY y)∨(y=nd w.all j∧y.out=[]∧VC E0 8 1 [.ptr 0 0,.agg (ai m)] (gA (nd w.all j)) (RR (.sl 0 [] true) 1 (gA (nd w.all j)))))∧y.out.length≤3000∧
  c9 n ⟨w.c,w.all.set (j - 1).toNat (a6 y),mR++y.out,w.num⟩ g':=by
 obtain⟨N,ho,hl⟩:=I.ni j hj;have OJ:=I.pl.mem j hj;rcases I.said m hm with⟨_,h1⟩|⟨ZZ,he,O6⟩
 ·omega
 have CU:c9 n ⟨w.c,w.all.set (j - 1).toNat (a6 (nd w.all j)),mR++(nd w.all j).out,w.num⟩ (fun i=>if i=j then g j else g i):=
  I.op hj (Int.le_refl _) (ot.refl N) hl (fun p hp=>(I.ah _ _ hp.IC).1) (fun b hb=>(I.ah _ _ hb.IC).2) (fun b hb=>I.nx _ _ hb) (I.k0 j hj) hs
 by_cases OI:m.aB=w.c.aB;rotate_left
 ·refine⟨nd w.all j,_,.inr ⟨rfl,ho,Rk _ m ?_⟩,by rw[ho];exact Nat.zero_le _,CU⟩;obtain⟨⟨a1,a2,a3⟩,hk⟩:=ZZ;rw[N.au,N.node];rcases hk with⟨s,d,us,e,h1,h2⟩|⟨s,d,e⟩
  ·have:=GL w.c I.pl.right j m.DY m.aB s d us a1 (I.pl.oq hj) a3 h1 h2 OI;rw[I.pl.chain]at this;rw[e,dV];exact this
  ·have:=GM w.c I.pl.right j m.DY m.aB 0 s d 0 a1 (I.pl.oq hj) a3 (by decide) OI;rw[I.pl.chain]at this;rw[e,dV];exact this
 obtain⟨i,hi,hL⟩:=O6 OI;obtain⟨Ni,_,_⟩:=I.ni i hi;have him:=I.pl.mem i hi;rcases hL with⟨_,h1⟩|⟨s,d,us,e,h1,h2,h3⟩|⟨s,d,e,h1,h2,h3,h4,h5,h6⟩
 ·omega
 ·-- a push
  have Bb:vj w.c.nodes i j:=by
   have:=I.pl.succ hi rfl h1
   rwa [show(aD w.c i).succ=j by rw[←dV,e]]at this
  obtain⟨r1,r2,r3,r4,r5⟩:=Bb.role I.pl;obtain⟨GO,qk⟩:=I.pl.GN hj;have ZH:∀u∈us,UG w.num u:=fun u hu=>Ni.log.ok u (h3 u hu);obtain⟨A,q1,q2,q3⟩:=N.push d us ZH GO I.pl.fresh;have Rj:g j++bt us (g j).length<+:g i:=by
   refine GP (I.ah _ _ Bb.IC).1 fun k u hk=>?_;have hu:=h3 u (mO _ _ u (List.mem_of_getElem? hk));obtain⟨x,hx,ex⟩:=List.mem_iff_getElem.1 hu;have TT:=mP us (g j).length k u hk;have hsx:=Ni.log.seq x u (by rw[List.getElem?_eq_getElem hx,ex]);obtain rfl:x=(g j).length+k:=by omega
   rw[List.getElem?_eq_getElem hx,ex]
  have Ze:=Rj.length_le;have hgi:=(I.ni i hi).2.2;have SI:=A.len;rw[ho]at SI;refine⟨pe (nd w.all j) d us,_,.inl ?_,?_,I.op hj (Int.le_refl _) A om (fun p hp=>?_) (fun b hb=>?_) (fun b hb=>?_) (by rw[q1,q2];exact I.k0 j hj) hs⟩
  ·have:=N.ab1 I.pl hj (I.hc hj) om om ho (f:=i) (s:=s) (d:=d) (us:=us) (I.pl.oq hi) h2 (fun u hu=>⟨ZH u hu,(Ni.log.seq1 (h3 u hu)).1,by have:=(Ni.log.seq1 (h3 u hu)).2;omega⟩) ⟨by rw[r2];exact r4,r2.symm⟩;rw[e,r1];exact this
  ·simp only[List.length_nil,Nat.zero_add]at SI;omega
  ·rw[hp.YQ I.pl.nodup Bb];exact Rj
  ·rw[q3,if_neg (by rw[(hb.role I.pl).2.2.1];exact Bool.noConfusion)];exact(I.ah _ _ hb.IC).2
  ·rw[q1,q2,q3,if_neg (by rw[(hb.role I.pl).2.2.1];exact Bool.noConfusion)];exact I.nx _ _ hb
 ·-- how far Succ is
  have Wi:vj w.c.nodes j i:=by
   have:=I.pl.pred hi rfl h1
   rwa [show(aD w.c i).pred=j by rw[←dV,e]]at this
  obtain⟨r1,r2,r3,r4,r5⟩:=Wi.role I.pl;obtain⟨x1,x2⟩:=I.nx _ _ Wi;have nq:=(I.ah _ _ Wi.IC).1.length_le;have GD:=(I.ah _ _ Wi.IC).2;have ab5:(nd w.all j).an.done≤max (nd w.all j).bl s:=by rcases x2 with x2|⟨_,x2⟩<;>omega
  have Zd:max (nd w.all j).bl s≤(g i).length:=by
   cases hk:(nd w.all j).known with
   |true=>have:=(x1 hk).2;omega
   |false=>have:=I.k0 j hj hk;omega
  have hg2:max (nd w.all j).bl s≤(g j).length:=by omega
  have hwl:=N.an.ld;have hh:(g9 (nd w.all j).an (max (nd w.all j).bl s) 0).isSome=true:=by
   unfold g9;rw[if_neg (by rw[N.an.end_];omega)];rfl
  obtain⟨A,q1,q2,q3⟩:=N.YP s d hh;have qG:(aD w.c j).succ∈w.c.nodes:=by rw[r1];exact hi
  rw[if_pos qG]at q3;have SI:=A.len;rw[ho]at SI;refine⟨kM (nd w.all j) s d,_,.inl ?_,?_,I.op hj (Int.le_refl _) A hl (fun p hp=>(I.ah _ _ hp.IC).1) (fun b hb=>?_) (fun b hb=>?_) (fun q=>by rw[q2]at q;cases q) hs⟩
  ·have:=N.ab3 I.pl hj om om ho (f:=i) (s:=s) (d:=d) (I.pl.oq hi) ⟨h3,h5⟩ ⟨by rw[r1];exact r5,r1.symm⟩ ⟨ab5,hg2⟩;rw[e,r2];exact this
  ·simp only[List.length_nil,Nat.zero_add]at SI;omega
  ·obtain rfl:=hb.uniq I.pl.nodup Wi;rw[q3];omega
  ·obtain rfl:=hb.uniq I.pl.nodup Wi;rw[q1,q2,q3];exact⟨fun _=>by omega,.inr ⟨rfl,om⟩⟩
end
def aF (c:CF) (gone:Int):CF:=⟨0,c.aB+1,c.nodes.filter (fun x=>decide (x≠gone)),false,0⟩
def bX (d:CF) (r:List RS×List Lr) (j:Int):List RS×List Lr:=(r.1.set (j - 1).toNat (a6 (bm (nd r.1 j) d)),r.2++(bm (nd r.1 j) d).out)
theorem GQ (d:CF):∀(l:List Int) (r:List RS×List Lr),(l.foldl (bX d) r).1.length=r.1.length
 |[],_=>rfl
 |j::l,r=>by rw[List.foldl_cons,GQ d l];exact List.length_set
theorem OL (d:CF):∀(l:List Int) (r:List RS×List Lr),l.Nodup→(∀j∈l,1≤j∧j≤r.1.length)→∀k,1≤k→nd (l.foldl (bX d) r).1 k=if k∈l then a6 (bm (nd r.1 k) d)else nd r.1 k
 |[],_,_,_,k,_=>by rw[if_neg (List.not_mem_nil)];rfl
 |j::l,r,hn,hl,k,hk=>by
  obtain⟨n1,n2⟩:=List.nodup_cons.1 hn;have hj:=hl j List.mem_cons_self;have hs:∀i,1≤i→nd (bX d r j).1 i=if i=j then a6 (bm (nd r.1 j) d)else nd r.1 i:=fun i hi=>Cb hj hi
  rw[List.foldl_cons,OL d l (bX d r j) n2 (fun i hi=>by
   have:=hl i (List.mem_cons_of_mem _ hi);show 1≤i∧i≤((r.1.set _ _).length:Int);rw[List.length_set];exact this) k hk,hs k hk]
  by_cases e:k=j
  ·subst e;rw[if_neg n1,if_pos rfl,if_pos List.mem_cons_self]
  ·rw[if_neg e];by_cases hm:k∈l
   ·rw[if_pos hm,if_pos (List.mem_cons_of_mem _ hm)]
   ·rw[if_neg hm,if_neg (fun q=>by rcases List.mem_cons.1 q with q|q;exact e q;exact hm q)]
theorem OM (d:CF):∀(l:List Int) (r:List RS×List Lr),l.Nodup→(∀j∈l,1≤j∧j≤r.1.length)→∀m∈(l.foldl (bX d) r).2,m∈r.2∨∃j∈l,m∈(bm (nd r.1 j) d).out
 |[],_,_,_,m,hm=>.inl hm
 |j::l,r,hn,hl,m,hm=>by
  obtain⟨n1,n2⟩:=List.nodup_cons.1 hn;have hj:=hl j List.mem_cons_self;have hs:∀i,1≤i→nd (bX d r j).1 i=if i=j then a6 (bm (nd r.1 j) d)else nd r.1 i:=fun i hi=>Cb hj hi
  rw[List.foldl_cons]at hm;rcases OM d l (bX d r j) n2 (fun i hi=>by
   have:=hl i (List.mem_cons_of_mem _ hi);show 1≤i∧i≤((r.1.set _ _).length:Int);rw[List.length_set];exact this) m hm with q|⟨i,hi,q⟩
  ·rcases List.mem_append.1 q with q|q
   ·exact .inl q
   ·exact .inr ⟨j,List.mem_cons_self,q⟩
  ·rw[hs i (hl i (List.mem_cons_of_mem _ hi)).1,if_neg (fun e=>by subst e;exact n1 hi)]at q;exact .inr ⟨i,List.mem_cons_of_mem _ hi,q⟩
theorem sU (d:CF) (b:Nat):∀(l:List Int) (r:List RS×List Lr),l.Nodup→(∀j∈l,1≤j∧j≤r.1.length)→(∀j∈l,(bm (nd r.1 j) d).out.length≤b)→(l.foldl (bX d) r).2.length≤r.2.length+l.length*b
 |[],_,_,_,_=>Nat.le_add_right _ _
 |j::l,r,hn,hl,hb=>by
  obtain⟨n1,n2⟩:=List.nodup_cons.1 hn;have hj:=hl j List.mem_cons_self;have hs:∀i,1≤i→nd (bX d r j).1 i=if i=j then a6 (bm (nd r.1 j) d)else nd r.1 i:=fun i hi=>Cb hj hi
  rw[List.foldl_cons];have h1:=sU d b l (bX d r j) n2 (fun i hi=>by
   have:=hl i (List.mem_cons_of_mem _ hi);show 1≤i∧i≤((r.1.set _ _).length:Int);rw[List.length_set];exact this) (fun i hi=>by
    rw[hs i (hl i (List.mem_cons_of_mem _ hi)).1,if_neg (fun e=>by subst e;exact n1 hi)];exact hb i (List.mem_cons_of_mem _ hi))
  have h2:(bX d r j).2.length=r.2.length+(bm (nd r.1 j) d).out.length:=by show(r.2++_).length=_;rw[List.length_append]
  have h3:=hb j List.mem_cons_self;rw[List.length_cons,Nat.succ_mul];omega
section
variable {n:Nat} {w:CS} {g:Int→List bo}
theorem c9.write (I:c9 n w g) (hb:w.num≤1000) {ak:Int} (hc:1≤ak∧ak≤6) {j:Int} (hh:w.c.nodes[0]? =some j):
 ∃y g',VC E0 8 1 [.ptr 0 0,.agg (ai (pf w.c j ak (w.num+1)))] (gA (nd w.all j)) (nY y)∧y.out.length≤3000∧c9 n ⟨w.c,w.all.set (j - 1).toNat (a6 y),w.said++y.out,w.num+1⟩ g':=by
 have hj:=List.mem_of_getElem? hh;obtain⟨N0,ho,hl⟩:=I.ni j hj;have mg:=I.num;have N:NI w.c j (w.num+1) (g j) (nd w.all j):=N0.mono om;have hu:UG (w.num+1) {xV ak (w.num+1)with seq:=((g j).length:Int)+1}:=⟨rfl,rfl,hc,⟨by show 1≤w.num+1;omega,Int.le_refl _⟩,by show 0≤(w.num+1) % 5∧(w.num+1) % 5≤4;omega,by show 2≤2048;decide⟩;have Vd:bQ (nd w.all j).st.t (xV ak (w.num+1)).ak (xV ak (w.num+1)).num=0:=N0.sg.fresh hc (by show w.num<w.num+1;omega) mg;obtain⟨L',A,hL,q1,q2,q3⟩:=N.write hu Vd;have hnp:∀p,¬vj w.c.nodes p j:=fun p ⟨i,_,h2⟩=>by
  have h3:=nQ I.pl.nodup h2;have h4:=nQ I.pl.nodup hh;omega
 have TF:(aD w.c j).head=true:=by rw[I.pl.role hh];rfl
 have hll:(L'.length:Int)≤w.num+1:=by
  rcases hL with rfl |rfl
  ·omega
  ·rw[List.length_append];simp;omega
 have SI:=A.len;rw[ho]at SI;refine⟨gz (nd w.all j) (xV ak (w.num+1)),_,?_,?_,I.op hj om A hll (fun p hp=>absurd hp (hnp p)) (fun b hb=>?_) (fun b hb=>?_) (by rw[q1,q2];exact I.k0 j hj) (fun m h=>h)⟩
 ·have:=N.ab4 I.pl hj (I.hc hj) om om ho (f:=200+ak) om hu rfl TF Vd;exact this
 ·simp only[List.length_nil,Nat.zero_add]at SI;omega
 ·rw[q3 (hb.role I.pl).2.2.1];exact(I.ah _ _ hb.IC).2
 ·rw[q1,q2,q3 (hb.role I.pl).2.2.1];exact I.nx _ _ hb
theorem c9.EA (I:c9 n w g) {gone:Int} (hl:2≤w.c.nodes.length):Plain (aF w.c gone):=by
 have P:=I.pl;have hn:(w.c.nodes.filter (fun x=>decide (x≠gone))).Nodup:=P.nodup.sublist List.filter_sublist;have hm:∀j∈w.c.nodes.filter (fun x=>decide (x≠gone)),1≤j∧j≤5:=fun j hj=>P.mem j (List.mem_filter.1 hj).1;have h1:1≤(w.c.nodes.filter (fun x=>decide (x≠gone))).length:=by
  have h0:w.c.nodes[0]≠w.c.nodes[1]:=fun e=>by
   have:=mQ P.nodup (i:=0) (k:=1) om om e;omega
  have:∃x∈w.c.nodes,x≠gone:=by
   by_cases e:w.c.nodes[0]=gone
   ·exact⟨_,List.getElem_mem (show 1<w.c.nodes.length by omega),fun q=>h0 (e.trans q.symm)⟩
   ·exact⟨_,List.getElem_mem (show 0<w.c.nodes.length by omega),e⟩
  obtain⟨x,hx,bj⟩:=this;exact List.length_pos_iff.2 (List.ne_nil_of_mem (List.mem_filter.2 ⟨hx,by simpa using bj⟩))
 have h5:=List.length_filter_le (fun x=>decide (x≠gone)) w.c.nodes;have hr:=P.right;refine⟨⟨⟨Int.le_refl _,(by decide:(0:Int)<4)⟩,?_,⟨h1,?_⟩,fun q=>Bool.noConfusion q,?_⟩,rfl,rfl,hn,hm,rfl⟩
 ·show 1≤w.c.aB+1;have:=hr.2.1;omega
 ·show(w.c.nodes.filter _).length≤5;have:=hr.2.2.1;omega
 ·show jr (w.c.nodes.filter _++[]);rw[List.append_nil];exact⟨hn,fun j hj=>by have:=hm j hj;omega⟩
theorem c9.EB (I:c9 n w g) {gone j:Int} (hj:j∈(aF w.c gone).nodes):j∈w.c.nodes∧1≤j∧j≤w.all.length:=by
 have h:=(List.mem_filter.1 hj).1;have:=I.pl.mem j h;have:=I.vk j h;have:=I.len;exact⟨h,om,om⟩
theorem c9.ON (I:c9 n w g) (hb:w.num≤2000) {gone:Int} (hl:2≤w.c.nodes.length) {j:Int} (hj:j∈(aF w.c gone).nodes):
 VC E0 21 1 [.ptr 0 0,.agg (bS (aF w.c gone))] (gA (nd w.all j)) (RR (.cY [.tk 1,.s (.bool true)]) 2 [(0,kP (a6 (bm (nd w.all j) (aF w.c gone)))),(1,.arr 25 true ((bm (nd w.all j) (aF w.c gone)).out.map ai))])∧(bm (nd w.all j) (aF w.c gone)).out.length≤3000:=by
 obtain⟨h,_,_⟩:=I.EB hj;obtain⟨N,ho,hL⟩:=I.ni j h;have hr:=I.pl.right;refine⟨N.Rl (I.EA hl) hj om om ho (by have:=hr.2.1;omega) I.pl.chain (by show w.c.aB<w.c.aB+1;omega),?_⟩;have:=(N.SH (aF w.c gone)).2.2.2.2.2.2;rw[ho]at this;simp at this;omega
theorem c9.cut (I:c9 n w g) (_:w.num≤2000) {gone:Int} (hl:2≤w.c.nodes.length):c9 n ⟨aF w.c gone,((aF w.c gone).nodes.foldl (bX (aF w.c gone)) (w.all,[])).1,w.said++((aF w.c gone).nodes.foldl (bX (aF w.c gone)) (w.all,[])).2,w.num⟩ g:=by
 have P':=I.EA (gone:=gone) hl;have nZ:=fun j (hj:j∈(aF w.c gone).nodes)=>I.EB hj;have lq:∀j∈(aF w.c gone).nodes,nd ((aF w.c gone).nodes.foldl (bX (aF w.c gone)) (w.all,[])).1 j=a6 (bm (nd w.all j) (aF w.c gone)):=fun j hj=>by
  rw[OL _ _ _ P'.nodup (fun i hi=>(nZ i hi).2) j (nZ j hj).2.1,if_pos hj]
 have EY:=OM (aF w.c gone) (aF w.c gone).nodes (w.all,[]) P'.nodup (fun i hi=>(nZ i hi).2);have Ve:=fun j (hj:j∈(aF w.c gone).nodes)=>(I.ni j (nZ j hj).1).1.SH (aF w.c gone);have hah:∀a b,Cq (aF w.c gone).nodes a b→Cq w.c.nodes a b:=fun a b h=>h.sub List.filter_sublist I.pl.nodup;generalize kr:(aF w.c gone).nodes.foldl (bX (aF w.c gone)) (w.all,[])=r at*
 have hlen:r.1.length=w.all.length:=by rw[←kr];exact GQ _ _ _
 refine⟨P',hlen.trans I.len,fun j hj=>I.vk j (nZ j hj).1,I.num,fun j hj=>?_,fun a b uO=>?_,fun a b uO=>?_,fun j hj=>?_,fun m hm=>?_⟩
 ·obtain⟨N,_,_⟩:=Ve j hj;show NI _ _ _ _ (nd r.1 j)∧(nd r.1 j).out=[]∧_;rw[lq j hj];exact⟨⟨N.node,N.au,N.role,N.df,N.comes,N.log,N.st,N.sg,N.an,N.base,N.M0⟩,rfl,(I.ni j (nZ j hj).1).2.2⟩
 ·obtain⟨ha,bL⟩:=uO.mem;obtain⟨h1,h2⟩:=I.ah a b (hah a b uO);refine⟨h1,?_⟩;show(nd r.1 a).an.done≤(nd r.1 b).an.done;rw[lq a ha,lq b bL];obtain⟨_,_,_,_,da,_⟩:=Ve a ha;obtain⟨_,_,_,_,db,_⟩:=Ve b bL;obtain⟨s,hs,_⟩:=uO.succ;show(bm _ _).an.done≤(bm _ _).an.done;rw[da,db,if_neg (by rw[(hs.role P').2.2.1];exact Bool.noConfusion)];have:=(I.ni b (nZ b bL).1).1.an.de;split<;>omega
 ·obtain⟨ha,bL⟩:=uO.mem;obtain⟨h1,h2⟩:=I.ah a b (hah a b uO.IC);show((nd r.1 a).known=true→(nd r.1 b).base≤(nd r.1 a).bl∧(nd r.1 a).bl≤_)∧((nd r.1 a).an.done≤(nd r.1 b).base∨_);rw[lq a ha,lq b bL];obtain⟨_,_,ka,ga,da,_⟩:=Ve a ha;obtain⟨_,bb,_,_,db,_⟩:=Ve b bL;refine⟨fun q=>?_,.inl ?_⟩
  ·have q:(bm (nd w.all a) (aF w.c gone)).known=true:=q;rw[ka]at q;cases q
  ·show(bm _ _).an.done≤(bm _ _).base;rw[da,bb,if_neg (by rw[(uO.role P').2.2.1];exact Bool.noConfusion)];have:=(I.ni b (nZ b bL).1).1.an.de;omega
 ·show(nd r.1 j).known=false→(nd r.1 j).bl=0;rw[lq j hj];exact fun _=>(Ve j hj).2.2.2.1
 ·rcases List.mem_append.1 hm with q|q
  ·rcases I.said m q with r'|⟨r1,r2,_⟩
   ·exact .inl r'
   ·exact .inr ⟨r1,by show m.aB≤w.c.aB+1;omega,fun e=>by have e:m.aB=w.c.aB+1:=e;omega⟩
  ·rcases EY m q with q|⟨j,hj,q⟩
   ·cases q
   obtain⟨N,_,_,_,_,hs,_⟩:=Ve j hj;rcases hs m q with q|q
   ·rw[(I.ni j (nZ j hj).1).2.1]at q;cases q
   ·rcases q.shp P' hj N.log with s|⟨s1,s2⟩
    ·exact .inl s
    ·refine .inr ⟨s1,by rw[s2];exact Int.le_refl _,fun _=>⟨j,hj,?_⟩⟩;show LK _ j (g j) (nd r.1 j).an.done (nd r.1 j).base m;rw[lq j hj];exact q
theorem c9.row (I:c9 n w g) (_:w.num≤2000) {a b:Int} (h:vj w.c.nodes a b):(nd w.all b).st.e≤(nd w.all a).st.e∧(nd w.all a).an.done≤(nd w.all b).an.done∧(nd w.all b).an.done≤(nd w.all b).st.e∧
 ((nd w.all a).st.e=(nd w.all b).st.e→ru (nd w.all a).st=ru (nd w.all b).st):=by
 obtain⟨ha,bL⟩:=h.mem;obtain⟨Na,_,_⟩:=I.ni a ha;obtain⟨Nb,_,_⟩:=I.ni b bL;obtain⟨h1,h2⟩:=I.ah a b h.IC;rw[Na.e,Nb.e];have:=h1.length_le;refine⟨om,h2,Nb.an.de,fun e=>?_⟩;have e2:=h1.eq_of_length om;have rA:=Nb.st;rw[e2]at rA;exact(Na.st.trans rA.symm).pic
theorem c9.OD (I:c9 n w g) (hb:w.num≤2000) {j:Int} (h:j∈w.c.nodes):sM (nd w.all j).st:=by
 obtain⟨N,_,hl⟩:=I.ni j h;exact N.sg.OD (by rw[N.e];omega) om
end
theorem Vf:∀n∈[1,2,3,4,5],cW (gM n)∧(gM n).nodes.Nodup∧(∀j∈(gM n).nodes,1≤j∧j≤n):=by decide+kernel
theorem c9.begun (n:Nat) (hn:n∈[1,2,3,4,5]):c9 n ⟨gM n,fC n,[],0⟩ (fun _=>[]):=by
 obtain⟨h1,h2,h3⟩:=Vf n hn;have hn5:n≤5:=by simp at hn;omega
 have lq:∀j∈(gM n).nodes,nd (fC n) j=sG j (gM n):=fun j hj=>by
  obtain⟨a,b⟩:=h3 j hj;unfold nd fC;rw[List.getElem?_map,List.getElem?_range om];show sG (((j - 1).toNat:Int)+1) (gM n)=_;rw[show((j - 1).toNat:Int)+1=j by omega]
 refine⟨⟨h1,rfl,rfl,h2,fun j hj=>by have:=h3 j hj;omega,rfl⟩,by simp[fC],fun j hj=>(h3 j hj).2,Int.le_refl _,fun j hj=>?_,fun a b uO=>?_,fun a b uO=>?_,fun j hj=>?_,fun m hm=>by cases hm⟩
 ·show NI _ _ _ _ (nd (fC n) j)∧(nd (fC n) j).out=[]∧_;rw[lq j hj];exact⟨⟨rfl,rfl,rfl,rfl,rfl,⟨fun i u h=>by simp at h,fun u h=>by cases h⟩,.refl _,SG.zero,⟨Int.le_refl _,Int.le_refl _,Int.le_refl _,rfl⟩,⟨Int.le_refl _,Int.le_refl _⟩,Int.le_refl _⟩,rfl,Int.le_refl _⟩
 ·obtain⟨ha,hb⟩:=uO.mem;show _∧(nd (fC n) a).an.done≤(nd (fC n) b).an.done;rw[lq a ha,lq b hb];exact⟨List.prefix_refl _,Int.le_refl _⟩
 ·obtain⟨ha,hb⟩:=uO.mem;show((nd (fC n) a).known=true→(nd (fC n) b).base≤(nd (fC n) a).bl∧(nd (fC n) a).bl≤_)∧((nd (fC n) a).an.done≤(nd (fC n) b).base∨_);rw[lq a ha,lq b hb];exact⟨fun q=>Bool.noConfusion q,.inl (Int.le_refl _)⟩
 ·show(nd (fC n) j).known=false→(nd (fC n) j).bl=0;rw[lq j hj];exact fun _=>rfl
set_option maxHeartbeats 8000000
theorem Cd (l:List Int) (x:Int) (hl:l.length≤100):VC E0 16 0 [.sl 1 (l.map aL) false,.s (.int .i64 x)] [] (RR (.s (.bool (decide (x∈l)))) 0 []):=by
 suffices h:∀b,b=decide (x∈l)→VC E0 16 0 [.sl 1 (l.map aL) false,.s (.int .i64 x)] [] (RR (.s (.bool b)) 0 [])from h _ rfl
 intro b hb;refine en L0 Tryz.f16 ?_;refine⟨fun k f o c=>∃i:Nat,i≤l.length∧k=l.length - i∧x∉l.take i∧c=0∧f=[(0,.sl 1 (l.map aL) false),(1,.s (.int .i64 x)),(5,.s (.int .i64 i))]∧o=[],⟨l.length,?_⟩,?_⟩
 ·exact⟨[],[],_,_,_,t3,⟨0,Nat.zero_le _,rfl,List.not_mem_nil,rfl,rfl,rfl⟩⟩
 rintro k f1 o1 c1 ⟨i,hi,rfl,hx,rfl,rfl,rfl⟩;refine wh ?_;refine sp ?_ ?_<;>intro h
 ·have h:i<l.length:=o5.1 h;have fI:IntKind.i64.wrap ((i:Int)+1)=((i+1:Nat):Int):=IntWalk.i64_in _ om;refine wh ?_;refine lW h ?_;refine wh ?_;refine sp ?_ ?_<;>intro hv
  ·have hv:l[i]=x:=hv;obtain rfl:b=true:=hb.trans (decide_eq_true (hv▸List.getElem_mem h));refine wh ?_;exact⟨[],[],_,_,_,t3,rfl,rfl,rfl⟩
  ·have hv:¬l[i]=x:=hv;refine wh ?_;rw[fI];refine⟨l.length - (i+1),?_,om⟩;exact⟨[],[],_,_,_,t3,⟨i+1,h,rfl,by rw[g8 l i h,List.mem_append,List.mem_singleton];exact fun q=>q.elim hx fun q=>hv q.symm,rfl,rfl,rfl⟩⟩
 ·have h:¬i<l.length:=fun q=>h (o5.2 q);obtain rfl:i=l.length:=by omega
  rw[List.take_length]at hx;obtain rfl:b=false:=hb.trans (decide_eq_false hx);refine wh ?_;exact⟨[],[],_,_,_,t3,rfl,rfl,rfl⟩
theorem OO {s:dG} (H:sM s):(ru s).length<1000000:=by
 have h1:=Ao H (cz (bN s.bs));have h2:(cz (bN s.bs)).length=s.bs.length:=by unfold cz;rw[List.length_mergeSort,List.length_map]
 have h3:=H.n;have h4:=rk (hY s.t);have h5:=ui s.t;show(cP 8 s.e.toNat++(cP 1 (hY s.t).length++(hY s.t).flatMap BZ)++cP 2 s.bs.length++(cz (bN s.bs)).flatMap (rq s)).length<1000000;simp only[List.length_append,bY,h4];omega
theorem SJ {l:List RS} {i j:Nat} {x y:RS} (h:l[i]? =some x) (h2:l[j]? =some y):((l.map bq).set i (bq x)).set j (bq y)=l.map bq:=by
 rw[SE h,SE h2]
theorem iK {all:List RS} {j:Int} (h:1≤j∧j≤all.length):all[(j - 1).toNat]? =some (nd all j):=by
 unfold nd;rw[List.getElem?_eq_getElem om];rfl
theorem Vg (all:List RS) (l:List Int) (eC:all.length≤5) (hl:l.length≤5) (hm:∀j∈l,1≤j∧j≤all.length) (hn:l.Nodup) (hp:∀j∈l,sM (nd all j).st)
 (hr:∀a b,vj l a b→(nd all b).st.e≤(nd all a).st.e∧(nd all a).an.done≤(nd all b).an.done∧(nd all b).an.done≤(nd all b).st.e∧((nd all a).st.e=(nd all b).st.e→ru (nd all a).st=ru (nd all b).st)):
 VC E0 19 1 [.tk 0,.sl 1 (l.map aL) false] [(0,kQ all)] (RR (.s (.bool true)) 1 [(0,kQ all)]):=by
 refine en L0 Tryz.f19 ?_;refine⟨fun k f o c=>∃i:Nat,i≤l.length∧k=l.length - i∧c=1∧f=[(0,.tk 0),(1,.sl 1 (l.map aL) false),(5,.s (.int .i64 i))]∧o=[(0,kQ all)],⟨l.length,?_⟩,?_⟩
 ·exact⟨[],[some 0],_,_,_,t3,⟨0,Nat.zero_le _,rfl,rfl,rfl,rfl⟩⟩
 rintro k f1 o1 c1 ⟨i,hi,rfl,rfl,rfl,rfl⟩;have fI:IntKind.i64.wrap ((i:Int)+1)=((i+1:Nat):Int):=IntWalk.i64_in _ om;refine wh ?_;rw[fI];refine sp ?_ ?_<;>intro h;rotate_left
 ·refine wh ?_;exact⟨[],[some 0],_,_,_,t3,rfl,rfl,rfl⟩
 have h:i+1<l.length:=o5.1 h;have ga:l[i]? =some (l[i]' om):=List.getElem?_eq_getElem _;have gb:l[i+1]? =some (l[i+1]'h):=List.getElem?_eq_getElem _;have yZ:=hm _ (List.mem_of_getElem? ga);have hmb:=hm _ (List.mem_of_getElem? gb);obtain⟨r1,r2,r3,r4⟩:=hr _ _ ⟨i,ga,gb⟩;have pa:=hp _ (List.mem_of_getElem? ga);have pb:=hp _ (List.mem_of_getElem? gb);have bj:l[i]' om≠l[i+1]'h:=fun e=>by
  have:=mQ hn (i:=i) (k:=i+1) om h e;omega
 have ia:(l.map aL)[(i:Int).toNat]? =some (aL (l[i]' om)):=by rw[Int.toNat_natCast,List.getElem?_map,ga];rfl
 have ib:(l.map aL)[((i+1:Nat):Int).toNat]? =some (aL (l[i+1]'h)):=by rw[Int.toNat_natCast,List.getElem?_map,gb];rfl
 generalize l[i]' om=a at*
 generalize l[i+1]'h=b at*
 have xa:=iK yZ;have xb:=iK hmb;have wa:IntKind.i64.wrap (a - 1)=a - 1:=IntWalk.i64_in _ om;have wb:IntKind.i64.wrap (b - 1)=b - 1:=IntWalk.i64_in _ om;generalize nd all a=x at*
 generalize nd all b=y at*
 have gi:(all.map bq)[(a - 1).toNat]? =some (bq x):=by rw[List.getElem?_map,xa];rfl
 have gj:(all.map bq)[(b - 1).toNat]? =some (bq y):=by rw[List.getElem?_map,xb];rfl
 have enx:=IA x;have eny:=IA y;have dnx:=IB x;have dny:=IB y;have hpx:=Iw x.st pa;have hpy:=Iw y.st pb;refine wh ?_;refine⟨aL a,⟨om,ia⟩,?_⟩;refine wh ?_;rw[wa];refine⟨⟨om,by rw[List.length_map];omega⟩,?_⟩;refine wh ?_;refine⟨bq x,gi,?_⟩;refine wh ?_;rw[fI];refine⟨aL b,⟨om,ib⟩,?_⟩;refine wh ?_;rw[wb];refine⟨⟨om,by rw[List.length_map];omega⟩,?_⟩;refine wh ?_;refine⟨fun hz=>?_,fun hz=>?_⟩
 ·exact absurd hz (by show¬(b - 1).toNat=(a - 1).toNat;omega)
 refine wh ?_;refine⟨bq y,gj,?_⟩;refine wh ?_;refine⟨[],[some 1],_,_,_,_,enx,t3,cw ?_⟩;refine⟨[],[some 2],_,_,_,_,eny,t3,cw ?_⟩;refine sp ?_ ?_<;>intro k1
 ·exact absurd k1 (by show¬x.st.e<y.st.e;omega)
 refine wh ?_;refine⟨[],[some 1],_,_,_,_,dnx,t3,cw ?_⟩;refine⟨[],[some 2],_,_,_,_,dny,t3,cw ?_⟩;refine sp ?_ ?_<;>intro k2
 ·exact absurd k2 (by show¬x.an.done>y.an.done;omega)
 refine wh ?_;refine⟨[],[some 2],_,_,_,_,dny,t3,cw ?_⟩;refine⟨[],[some 2],_,_,_,_,eny,t3,cw ?_⟩;refine sp ?_ ?_<;>intro k3
 ·exact absurd k3 (by show¬y.an.done>y.st.e;omega)
 refine wh ?_;refine⟨[],[some 1],_,_,_,_,enx,t3,cw ?_⟩;refine⟨[],[some 2],_,_,_,_,eny,t3,cw ?_⟩;refine sp ?_ ?_<;>intro k4;rotate_left
 ·refine wh ?_;rw[fI];refine⟨l.length - (i+1),?_,om⟩;refine⟨[],[some 0],_,_,_,⟨tq,.cons (.bV (iO:=[(_,bq y),(_,bq x)]) .two (Lw.of (SJ xa xb)) (.q2 (by show¬(b - 1).toNat=(a - 1).toNat;omega) tq (.q1 tq))) .nil,by rfl⟩,⟨i+1,om,rfl,rfl,rfl,rfl⟩⟩
 have oM:VC E0 13 0 [.sl 1 (bM (ru x.st)) false,.sl 1 (bM (ru y.st)) false] [] (RR (.s (.bool true)) 0 []):=by
  rw[←r4 k4];exact Rc (ru x.st) (OO pa)
 refine wh ?_;refine⟨[],[some 1],_,_,_,_,yk x,t3,cw ?_⟩;refine⟨[],[some 12],_,_,_,_,hpx,t3,cw ?_⟩;refine⟨[],[some 2],_,_,_,_,yk y,t3,cw ?_⟩;refine⟨[],[some 15],_,_,_,_,hpy,t3,cw ?_⟩;refine⟨[],[],_,_,_,_,oM,t3,cw ?_⟩;rw[fI];refine⟨l.length - (i+1),?_,om⟩;refine⟨[],[some 0],_,_,_,⟨tq,.cons (.bV (iO:=[(_,bq y),(_,bq x)]) .two (Lw.of (SJ xa xb)) (.q2 (by show¬(b - 1).toNat=(a - 1).toNat;omega) tq (.q1 tq))) .nil,by rfl⟩,⟨i+1,om,rfl,rfl,rfl,rfl⟩⟩
@[reducible] def SK (e:Int) (l:List Int):TO:=.cells [.s (.int .i64 0),.s (.int .u64 e),.own (.arr 1 true (l.map aL)),.s (.bool false),.s (.int .i64 0)]
@[reducible] def lH (gone:Int) (l:List Int):List Int:=l.filter (fun x=>decide (x≠gone))
@[reducible] def ID (c:CF) (l:List Int):TO:=.cells [.s (.int .i64 0),.s (.int .u64 (c.aB+1)),.sl 1 (l.map aL) false,.s (.bool false),.s (.int .i64 0)]
theorem KF (gone:Int) (l:List Int) (x:Int):lH gone (l++[x])=if x=gone then lH gone l else lH gone l++[x]:=by
 unfold lH;rw[List.filter_append];by_cases e:x=gone
 ·rw[if_pos e];simp[e]
 ·rw[if_neg e];simp[e]
theorem ry (c:CF) (all:List RS) (gone:Int) (P:Plain (aF c gone)) (he:0≤c.aB∧c.aB≤10000) (bU:c.nodes.length≤5) (nZ:∀j∈(aF c gone).nodes,1≤j∧j≤all.length)
 (eC:all.length≤5) (hv:∀j∈(aF c gone).nodes,VC E0 21 1 [.ptr 0 0,.agg (bS (aF c gone))] (gA (nd all j)) (RR (.cY [.tk 1,.s (.bool true)]) 2 [(0,kP (a6 (bm (nd all j) (aF c gone)))),(1,.arr 25 true ((bm (nd all j) (aF c gone)).out.map ai))])∧(bm (nd all j) (aF c gone)).out.length≤3000):
 VC E0 18 1 [.tk 0,.agg (bS c),.s (.int .i64 gone)] [(0,kQ all)] (RR (.cY [.agg (bS (aF c gone)),.tk 1]) 2 [(0,kQ ((aF c gone).nodes.foldl (bX (aF c gone)) (all,[])).1),(1,zd ((aF c gone).nodes.foldl (bX (aF c gone)) (all,[])).2)]):=by
 have hwe:IntKind.u64.wrap (c.aB+1)=c.aB+1:=IntWalk.u64_in _ om;refine en L0 Tryz.f18 ?_;rw[hwe];refine⟨fun k f o cc=>∃i:Nat,i≤c.nodes.length∧k=c.nodes.length - i∧cc=4∧f=[(0,.tk 0),(2,.s (.int .i64 gone)),(4,.ptr 1 0),(6,.ptr 2 0),(8,.ptr 3 0),(9,.sl 0 [] true),(10,.s (.int .i64 i))]∧o=[(0,kQ all),(1,.cells (bS c)),(2,.cells ug),(3,SK (c.aB+1) (lH gone (c.nodes.take i)))],⟨c.nodes.length,?_⟩,?_⟩
 ·exact⟨[],[some 0,some 1,some 2,some 3],_,_,_,t3,⟨0,Nat.zero_le _,rfl,rfl,rfl,rfl⟩⟩
 rintro k f1 o1 c1 ⟨i,hi,rfl,rfl,rfl,rfl⟩;have fI:IntKind.i64.wrap ((i:Int)+1)=((i+1:Nat):Int):=IntWalk.i64_in _ om;refine wh ?_;refine sp ?_ ?_<;>intro h
 ·have h:i<c.nodes.length:=o5.1 h;have qk:=KF gone (c.nodes.take i) c.nodes[i];rw[←g8 _ _ h]at qk;refine wh ?_;refine lW h ?_;refine wh ?_;refine sp ?_ ?_<;>intro hv
  ·have hv:¬c.nodes[i]=gone:=hv;rw[if_neg hv]at qk;refine wh ?_;refine lW h ?_;refine wh ?_;have qA:(lH gone (c.nodes.take i)).length≤5:=by
    have:=List.length_filter_le (fun x=>decide (x≠gone)) (c.nodes.take i);rw[List.length_take]at this;show(List.filter _ _).length≤5;omega
   refine⟨by rw[List.length_map];show _+1<_;omega,?_⟩;refine wh ?_;rw[fI];refine⟨c.nodes.length - (i+1),?_,om⟩;refine⟨[],[some 0,some 1,some 2,some 3],?_⟩
   iterate 3 constructor
   refine⟨⟨?_,?_,?_⟩,⟨i+1,h,rfl,rfl,rfl,rfl⟩⟩
   all_goals(repeat' first|exact LF|constructor)
   all_goals exact Lz.of (by show _=(lH gone (c.nodes.take (i+1))).map aL;rw[qk,List.map_append];rfl)
  ·have hv:¬¬c.nodes[i]=gone:=hv;rw[if_pos (Classical.not_not.1 hv)]at qk;refine wh ?_;rw[fI];refine⟨c.nodes.length - (i+1),?_,om⟩;exact⟨[],[some 0,some 1,some 2,some 3],_,_,_,t3,⟨i+1,h,rfl,rfl,rfl,congrArg (fun q=>[(0,kQ all),(1,.cells (bS c)),(2,.cells ug),(3,SK (c.aB+1) q)]) qk.symm⟩⟩
 have h:¬i<c.nodes.length:=fun q=>h (o5.2 q);obtain rfl:i=c.nodes.length:=by omega
 rw[List.take_length];clear h hi fI;refine wh ?_;refine⟨fun kk f o cc=>∃j:Nat,j≤(aF c gone).nodes.length∧kk=(aF c gone).nodes.length - j∧cc=4∧f=[(0,.tk 0),(6,.ptr 1 0),(8,.ptr 2 0),(9,.tk 3),(11,.s (.int .i64 j))]∧o=[(0,kQ (((aF c gone).nodes.take j).foldl (bX (aF c gone)) (all,[])).1),(1,.cells ug),(2,.cells [.s (.int .i64 0),.s (.int .u64 (c.aB+1)),YO j (aF c gone).nodes,.s (.bool false),.s (.int .i64 0)]),(3,zd (((aF c gone).nodes.take j).foldl (bX (aF c gone)) (all,[])).2)],⟨(aF c gone).nodes.length,?_⟩,?_⟩
 ·exact⟨[],[some 0,some 2,some 3,none],_,_,_,t3,⟨0,Nat.zero_le _,rfl,rfl,rfl,rfl⟩⟩
 rintro kk f1 o1 c1 ⟨j,hj,rfl,rfl,rfl,rfl⟩;have hd5:(aF c gone).nodes.length≤5:=Nat.le_trans (List.length_filter_le _ _) bU;have Cj:=P.right.2.2.1.1;have fI:IntKind.i64.wrap ((j:Int)+1)=((j+1:Nat):Int):=IntWalk.i64_in _ om;have lq:=fun h:j<(aF c gone).nodes.length=>OL (aF c gone) ((aF c gone).nodes.take j) (all,[]) (P.nodup.sublist (List.take_sublist _ _)) (fun i hi=>nZ i (List.mem_of_mem_take hi)) ((aF c gone).nodes[j]) (nZ _ (List.getElem_mem h)).1;have hlen:=GQ (aF c gone) ((aF c gone).nodes.take j) (all,[])
 have rz:=sU (aF c gone) 3000 ((aF c gone).nodes.take j) (all,[]) (P.nodup.sublist (List.take_sublist _ _)) (fun i hi=>nZ i (List.mem_of_mem_take hi)) (fun i hi=>(hv i (List.mem_of_mem_take hi)).2);have Hb:=fun h:j<(aF c gone).nodes.length=>KB (bX (aF c gone)) (all,[]) (aF c gone).nodes j h;have G8:∀h:j<(aF c gone).nodes.length,(aF c gone).nodes[j]∉(aF c gone).nodes.take j:=fun h q=>by
  obtain⟨x,hx,e⟩:=List.mem_iff_getElem.1 q;rw[List.getElem_take]at e;have VZ:x<j:=by rw[List.length_take]at hx;omega
  have:=mQ P.nodup (i:=x) (k:=j) om h e;omega
 have hvj:=fun h:j<(aF c gone).nodes.length=>hv _ (List.getElem_mem h);have Bb:=fun h:j<(aF c gone).nodes.length=>nZ _ (List.getElem_mem h);have afi:((aF c gone).nodes.take j).length≤5:=by rw[List.length_take];omega
 have Tb:(aF c gone).nodes=lH gone c.nodes:=rfl;have Zm:(aF c gone).aB=c.aB+1:=rfl;generalize G0:((aF c gone).nodes.take j).foldl (bX (aF c gone)) (all,[])=r at*
 obtain⟨al,mo⟩:=r;have hlen:al.length=all.length:=hlen;have rz:mo.length≤0+_*3000:=rz;cases j with
 |zero=>
  have RO:∀(a:List RS×List Lr) {al:List RS} {mo:List Lr},a=(al,mo)→[(0,kQ al),(1,TO.cells ug),(2,ID c (lH gone c.nodes)),(3,zd mo)]=[(0,kQ a.1),(1,.cells ug),(2,ID c (lH gone c.nodes)),(3,zd a.2)]:=fun a al mo e=>by rw[e]
  refine wh ?_;refine sp ?_ ?_<;>intro h
  ·have h:0<(aF c gone).nodes.length:=o5.1 h;have GO:=(lq h).trans (if_neg (G8 h));obtain⟨oC,rA⟩:=Bb h;obtain⟨sZ,Hc⟩:=hvj h;have uE:=Hb h;have ia:((lH gone c.nodes).map aL)[((0:Nat):Int).toNat]? =some (aL (aF c gone).nodes[0]):=by rw[Int.toNat_natCast,List.getElem?_map];show((aF c gone).nodes[0]?).map _=_;rw[List.getElem?_eq_getElem h];rfl
   generalize (aF c gone).nodes[0]=a at*
   have xa:=iK (all:=al) (j:=a) ⟨oC,om⟩;have GO:nd al a=nd all a:=GO;rw[GO]at xa;rw[show bX (aF c gone) (al,mo) a=(al.set (a - 1).toNat (a6 (bm (nd all a) (aF c gone))),mo++(bm (nd all a) (aF c gone)).out) by unfold bX;rw[GO]]at uE;generalize nd all a=x at*
   have gi:(al.map bq)[(a - 1).toNat]? =some (bq x):=by rw[List.getElem?_map,xa];rfl
   have wa:IntKind.i64.wrap (a - 1)=a - 1:=IntWalk.i64_in _ om;refine wh ?_;refine⟨⟨om,by rw[List.length_map];omega⟩,?_⟩;refine wh ?_;refine⟨aL a,ia,?_⟩;refine wh ?_;rw[wa];refine⟨⟨om,by rw[List.length_map];show a - 1<((al.length:Nat):Int);omega⟩,?_⟩;refine wh ?_;refine⟨bq x,gi,?_⟩;refine wh ?_;generalize hyy:bm x (aF c gone)=y at*
   refine⟨[4],[some 5],_,_,_,_,sZ,t3,cw ?_⟩;refine⟨by simp;omega,?_⟩;refine wh ?_;rw[fI];refine⟨(aF c gone).nodes.length - (0+1),?_,om⟩;refine⟨[],[some 0,some 1,some 2,some 8],_,_,_,⟨tq,.cons (.bV (iO:=[(_,bq (a6 y))]) .one (Lw.of nP) (.q1 tq)) (.cons tq (.cons tq (.cons (.arr (Lz.of List.map_append.symm)) .nil))),by rfl⟩,⟨0+1,om,rfl,rfl,rfl,RO _ uE⟩⟩
  ·exact absurd (show(0:Nat)<_ from Cj) (fun q=>h (o5.2 q))
 |succ j=>
  have RO:∀(a:List RS×List Lr) {al:List RS} {mo:List Lr},a=(al,mo)→[(0,kQ al),(1,TO.cells ug),(2,ID c (lH gone c.nodes)),(3,zd mo)]=[(0,kQ a.1),(1,.cells ug),(2,ID c (lH gone c.nodes)),(3,zd a.2)]:=fun a al mo e=>by rw[e]
  refine wh ?_;refine sp ?_ ?_<;>intro h
  ·have h:j+1<(aF c gone).nodes.length:=o5.1 h;have GO:=(lq h).trans (if_neg (G8 h));obtain⟨oC,rA⟩:=Bb h;obtain⟨sZ,Hc⟩:=hvj h;have uE:=Hb h;have ia:((lH gone c.nodes).map aL)[((j+1:Nat):Int).toNat]? =some (aL (aF c gone).nodes[j+1]):=by rw[Int.toNat_natCast,List.getElem?_map];show((aF c gone).nodes[j+1]?).map _=_;rw[List.getElem?_eq_getElem h];rfl
   generalize (aF c gone).nodes[j+1]=a at*
   have xa:=iK (all:=al) (j:=a) ⟨oC,om⟩;have GO:nd al a=nd all a:=GO;rw[GO]at xa;rw[show bX (aF c gone) (al,mo) a=(al.set (a - 1).toNat (a6 (bm (nd all a) (aF c gone))),mo++(bm (nd all a) (aF c gone)).out) by unfold bX;rw[GO]]at uE;generalize nd all a=x at*
   have gi:(al.map bq)[(a - 1).toNat]? =some (bq x):=by rw[List.getElem?_map,xa];rfl
   have wa:IntKind.i64.wrap (a - 1)=a - 1:=IntWalk.i64_in _ om;refine wh ?_;refine⟨aL a,⟨om,ia⟩,?_⟩;refine wh ?_;rw[wa];refine⟨⟨om,by rw[List.length_map];show a - 1<((al.length:Nat):Int);omega⟩,?_⟩;refine wh ?_;refine⟨bq x,gi,?_⟩;refine wh ?_;generalize hyy:bm x (aF c gone)=y at*
   refine⟨[],[some 4],_,_,_,_,sZ,t3,cw ?_⟩;refine⟨by simp;omega,?_⟩;refine wh ?_;rw[fI];refine⟨(aF c gone).nodes.length - (j+1+1),?_,om⟩;refine⟨[],[some 0,some 1,some 2,some 7],_,_,_,⟨tq,.cons (.bV (iO:=[(_,bq (a6 y))]) .one (Lw.of nP) (.q1 tq)) (.cons tq (.cons tq (.cons (.arr (Lz.of List.map_append.symm)) .nil))),by rfl⟩,⟨j+1+1,om,rfl,rfl,rfl,RO _ uE⟩⟩
  ·have h:¬j+1<(aF c gone).nodes.length:=fun q=>h (o5.2 q);have hje:j+1=(aF c gone).nodes.length:=by omega
   rw[hje,List.take_length]at G0;rw[G0];refine wh ?_;exact⟨[],[some 0,some 3],_,_,_,t3,rfl,rfl,rfl⟩
set_option maxRecDepth 1000000
theorem GR:Tryz.prog.follows .mixedOrders=true:=by kernel_rfl
theorem Ce:qn Ad 1=true:=by kernel_rfl
theorem Vh:F6 Tryz.prog Ad 6:=JI (n:=1) GR Ce (fs:=[76]) (bs:=[]) (ps:=[]) (m:=100000) (k:=100000) (by kernel_rfl)
theorem ab7 (base B:Nat):jy Tryz.prog E0 base B:=by
 refine P9 Ce (fun g hg=>?_) (fun base B=>Qo GR base B) base B;simp only[List.mem_cons,List.not_mem_nil,or_false]at hg;rcases hg with rfl;exact Vh
theorem aM:VC E0 6 0 [] [] (RR (.s (.bool true)) 0 []):=VC.mono (R:=fun r o c=>r= .s (.bool true)∧o=[]∧c=0)
 (VC.Ux (g:=6) (aw:=[6]) Ce (by show(Tryz.prog.funcs[6]?).isSome=true;kernel_rfl) rfl) fun _ _ _ h=>⟨h.1,h.2.2,h.2.1⟩
end Go.M
