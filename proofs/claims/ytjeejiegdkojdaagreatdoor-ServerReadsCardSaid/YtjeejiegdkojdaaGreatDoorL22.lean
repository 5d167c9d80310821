/-
  Part 22 of the library that the proof leans on.
-/
import Derived.Test.YtjeejiegdkojdaaGreatDoorL21
import Derived.Test.YtjeejiegdkojdaaGreatDoorL12
import Derived.Test.YtjeejiegdkojdaaGreatDoorL18
import Derived.Test.YtjeejiegdkojdaaGreatDoorL19
namespace Go.M
open Go Go.Proofs
set_option maxRecDepth 100000
set_option maxHeartbeats 2000000
def HC (x:RS) (n:Nat):Prop:=x.role.succ=0∨x.known=false∨(x.ar.done≤x.bo∧x.bo≤n)
theorem FI (x:RS) (l:Lr) (to:Int):fY x (zT x l to):=⟨rfl,rfl,rfl,rfl,rfl,rfl,rfl⟩
theorem nb (x:RS):fY x (cF x):=by
 unfold cF;split
 ·exact .refl x
 split
 ·exact FI _ _ _
 split
 ·exact FI _ _ _
 ·exact .refl x
theorem tH (x:RS):(cF x).ar=x.ar:=by
 unfold cF;split
 ·rfl
 split
 ·rfl
 split<;>rfl
section
variable {c:CF} {j M:Int} {L:List bd} {x:RS}
theorem HC.from_ (N:NI c j M L x) (h:HC x L.length) (m:Int):x.role.succ=0∨x.known=false∨(je x.ar x.bo m).isSome=true:=by
 rcases h with h|h|⟨h1,h2⟩
 ·exact .inl h
 ·exact .inr (.inl h)
 ·refine .inr (.inr ?_);have:=N.ar.ld;unfold je;rw[if_neg (by rw[N.ar.end_];omega)];rfl
theorem NI.say (N:NI c j M L x) (l:Lr) (to:Int) (h:LK c j L x.ar.done x.base (pG x l to)):oR c j M L L x (zT x l to) 1:=
 ⟨⟨N.node,N.ao,N.role,N.cU,N.comes,N.log,N.st,N.sg,N.ar,N.base,N.M0⟩,List.prefix_refl _,Int.le_refl _,rfl,fun m hm=>by
  rcases List.mem_append.1 hm with q|q
  ·exact .inl q
  ·simp only[List.mem_singleton]at q;rw[q];exact .inr h,by show(x.out++[_]).length≤_;rw[List.length_append];exact Nat.le_refl _⟩
theorem NI.qP (N:NI c j M L x) (us:List bd) (hs:x.role.succ≠0) (hl:us.length≤4) (hu:∀u∈us,u∈L):LK c j L x.ar.done x.base (pG x (qP x us) x.role.succ):=by
 refine .inr (.inl ⟨aO x.ar,x.base,us,?_,by rw[←N.role];exact hs,hl,hu⟩);show pG x {Q6 with kind:=12,seq:=aO x.ar,done:=x.base,us:=us} x.role.succ=_;unfold pG;rw[if_neg (show¬(12:Int)=18 by decide),N.node,N.ao,N.role]
theorem oR.ee {L':List bd} {y:RS} {a b:Nat} (h:oR c j M L L' x y a) (k:a≤b):oR c j M L L' x y b:=⟨h.ni,h.pre,h.done,h.base,h.Mt,by have:=h.len;omega⟩
theorem NI.hand (N:NI c j M L x):oR c j M L L x (cF x) 1:=by
 unfold cF;split
 ·exact(oR.refl N).ee om
 rename_i hs;split
 ·exact N.say _ _ (N.qP [] hs (by decide) (fun u hu=>by cases hu))
 split
 ·rename_i l hf;unfold je at hf;split at hf
  ·cases hf
  ·cases hf;have h4:=lR x.bo x.ar.l 4 (by decide);exact N.say _ _ (N.qP _ hs om fun u hu=>by
    have:=rW _ _ _ u hu;rw[N.ar.l]at this;exact List.mem_of_mem_drop this)
 ·exact(oR.refl N).ee om
theorem NI.up (N:NI c j M L x) {u:bd} (hu:UG M u) (hs:u.seq=(L.length:Int)+1):oR c j M L (L++[u]) x (te x u) 0:=by
 obtain⟨w1,w2⟩:=N.ar.add hu hs;have he:=N.e;obtain⟨s1,s2⟩:=N.sg.apply hu om;refine⟨⟨N.node,N.ao,N.role,N.cU,N.comes,N.log.snoc hu hs,?_,s1,w1,?_,N.M0⟩,List.prefix_append _ _,by show _≤(yR x.ar u).done;rw[w2];exact Int.le_refl _,rfl,fun _ h=>.inl h,Nat.le_refl _⟩
 ·exact N.st.up hs
 ·have:=N.base;rw[List.length_append];show 0≤x.base∧x.base≤_;simp;omega
theorem NI.ups:∀(l:List bd) {L:List bd} {x:RS},NI c j M L x→(∀u∈l,UG M u)→(∀(i:Nat) u,l[i]? =some u→u.seq=(L.length:Int)+i+1)→oR c j M L (L++l) x (l.foldl te x) 0
 |[],L,x,N,_,_=>by rw[List.append_nil];exact .refl N
 |u::l,L,x,N,h1,h2=>by
  have A:=N.up (h1 u List.mem_cons_self) (by have:=h2 0 u rfl;simpa using this);have B:=NI.ups l A.ni (fun v hv=>h1 v (List.mem_cons_of_mem _ hv)) fun i v hv=>by
   have:=h2 (i+1) v hv;rw[List.length_append];simp at this ⊢;omega
  have:=A.trans B;rw[List.append_assoc]at this;exact this
theorem nf:∀(us:List bd) (a:Int) (u:bd),u∈bz us a→u∈us
 |[],_,u,h=>by cases h
 |v::us,a,u,h=>by
  unfold bz at h;split at h
  ·exact List.mem_cons_of_mem _ (nf us a u h)
  ·rcases List.mem_cons.1 h with rfl |h
   ·exact List.mem_cons_self
   ·exact List.mem_cons_of_mem _ (nf us _ u h)
theorem ng:∀(us:List bd) (a:Int) (i:Nat) (u:bd),(bz us a)[i]? =some u→u.seq=a+i+1
 |[],_,i,u,h=>by simp[bz]at h
 |v::us,a,i,u,h=>by
  unfold bz at h;split at h
  ·exact ng us a i u h
  ·rename_i hv;rw[not_or]at hv;have IS:=Classical.not_not.1 hv.2;cases i with
   |zero=>simp at h;subst h;simp;omega
   |succ i=>
    have:=ng us v.seq i u (by simpa using h);simp;omega
theorem FJ:∀(l:List bd) (y:RS),(l.foldl te y).ar.done=y.ar.done
 |[],_=>rfl
 |u::l,y=>by
  rw[List.foldl_cons,FJ l];show(yR y.ar u).done=_;unfold yR;split
  ·rfl
  split
  ·rfl
  ·unfold lQ;split<;>rfl
theorem NI.fO (N:NI c j M L x) (us:List bd) (hu:∀u∈us,UG M u):oR c j M L (L++bz us L.length) x (fO x us) 0∧fY x (fO x us)∧(fO x us).ar.done=x.ar.done:=by
 refine⟨?_,tF _ x,FJ _ x⟩;show oR c j M L _ x ((bz us (aO x.ar)).foldl te x) 0;rw[N.ar.end_];exact NI.ups _ N (fun u h=>hu u (nf _ _ u h)) fun i u h=>ng _ _ i u h
theorem NI.oC (N:NI c j M L x) (us:List bd) (hu:∀u∈us,UG M u) (hj:(aD c j).lP=false):
 oR c j M L (L++bz us L.length) x (oC x us) ((L++bz us L.length).length+1)∧fY x (oC x us)∧(oC x us).ar.done=(if(aD c j).tail=true then((L++bz us L.length).length:Int)else x.ar.done):=by
 obtain⟨A1,K1,Qe⟩:=N.fO us hu;have hr:x.role=aD c j:=N.role;cases ht:(aD c j).tail with
 |true=>
  have e:Go.M.oC x us=cO (Go.M.fO x us) (aO (Go.M.fO x us).ar):=if_pos (.inl (by rw[hr];exact ht));rw[e,if_pos rfl];obtain⟨B1,B2⟩:=A1.ni.done (aO (Go.M.fO x us).ar);refine⟨(A1.trans B1).ee om,K1.trans (ir _ _),?_⟩;rw[B2,A1.ni.ar.end_];have:=A1.ni.ar.de;omega
 |false=>
  have e:Go.M.oC x us=Go.M.fO x us:=if_neg (by rw[hr,ht,hj];rintro(q|q)<;>cases q);rw[e,if_neg Bool.noConfusion];exact⟨A1.ee om,K1,Qe⟩
theorem NI.Dy (N:NI c j M L x) (d:Int) (us:List bd) (hf:c.fresh=false):Dy x d us=Go.M.oC x us:=if_neg (fun q=>by rw[N.ao,hf]at q;exact Bool.noConfusion q.2.1)
theorem NI.push (N:NI c j M L x) (d:Int) (us:List bd) (hu:∀u∈us,UG M u) (hj:(aD c j).lP=false) (hf:c.fresh=false):
 oR c j M L (L++bz us L.length) x (pH x d us) ((L++bz us L.length).length+3)∧(pH x d us).bo=x.bo∧(pH x d us).known=x.known∧(pH x d us).ar.done=(if(aD c j).tail=true then((L++bz us L.length).length:Int)else x.ar.done):=by
 obtain⟨A2,K2,D2⟩:=N.oC us hu hj;have A3:=A2.trans A2.ni.ack;have K3:=K2.trans (za (Go.M.oC x us));have D3:(ic (Go.M.oC x us)).ar.done=(Go.M.oC x us).ar.done:=by unfold ic;split<;>rfl
 rw[FE,N.Dy d us hf];split
 ·have A4:=A3.trans A3.ni.hand;have K4:=K3.trans (nb (ic (Go.M.oC x us)));exact⟨A4.ee om,K4.bo,K4.known,by rw[tH,D3,D2]⟩
 ·exact⟨A3.ee om,K3.bo,K3.known,by rw[D3,D2]⟩
theorem NI.write (N:NI c j M L x) {u:bd} (hu:UG M {u with seq:=(L.length:Int)+1}) (hj:bV x.st.t u.aj u.num=0):
 ∃L',oR c j M L L' x (gG x u) (L.length+3)∧(L'=L∨L'=L++[{u with seq:=(L.length:Int)+1}])∧(gG x u).bo=x.bo∧(gG x u).known=x.known∧((aD c j).tail=false→(gG x u).ar.done=x.ar.done):=by
 by_cases hd:jr x.ar<16;rotate_left
 ·have e:gG x u=x:=by
   unfold gG;rw[if_neg (by rw[N.cU];exact Bool.noConfusion),if_neg (by rw[hj];decide),if_pos hj,if_neg hd]
  rw[e];exact⟨L,(oR.refl N).ee om,.inl rfl,rfl,rfl,fun _=>rfl⟩
 rw[Bk N.cU hj hd];have e1:jU x u=te x {u with seq:=(L.length:Int)+1}:=by
  show te x (u2 x u)=_;unfold u2;rw[N.ar.end_]
 have A1:=N.up (u:={u with seq:=(L.length:Int)+1}) hu rfl;rw[←e1]at A1;have K1:fY x (jU x u):=Da x _;have hr:x.role=aD c j:=N.role;have Qe:(jU x u).ar.done=x.ar.done:=by rw[e1];exact(N.ar.add (u:={u with seq:=(L.length:Int)+1}) hu rfl).2
 have A2:oR c j M L (L++[{u with seq:=(L.length:Int)+1}]) x (v8 x u) (L.length+2)∧fY x (v8 x u)∧((aD c j).tail=false→(v8 x u).ar.done=x.ar.done):=by
  cases ht:(aD c j).tail with
  |true=>
   have e:v8 x u=cO (jU x u) (aO (jU x u).ar):=if_pos (by rw[hr];exact ht);rw[e];obtain⟨B1,B2⟩:=A1.ni.done (aO (jU x u).ar);exact⟨(A1.trans B1).ee (by simp),K1.trans (ir _ _),fun q=>Bool.noConfusion q⟩
  |false=>
   have e:v8 x u=jU x u:=if_neg (by rw[hr,ht];exact Bool.noConfusion);rw[e];exact⟨A1.ee om,K1,fun _=>Qe⟩
 obtain⟨A2,K2,D2⟩:=A2;have K3:=K2.trans (nb (v8 x u));exact⟨_,(A2.trans A2.ni.hand).ee om,.inr rfl,K3.bo,K3.known,fun q=>by rw[tH];exact D2 q⟩
theorem NI.abi (N:NI c j M L x) (s d:Int) (hh:(je x.ar (max x.bo s) 0).isSome=true):
 oR c j M L L x (la x s d) (L.length+2)∧(la x s d).bo=max x.bo s∧(la x s d).known=true∧(la x s d).ar.done=(if(aD c j).succ∈c.nodes then max x.ar.done (min d L.length)else x.ar.done):=by
 have N1:NI c j M L (Dz x s):=⟨N.node,N.ao,N.role,N.cU,N.comes,N.log,N.st,N.sg,N.ar,N.base,N.M0⟩;have A1:oR c j M L L x (Dz x s) 0:=⟨N1,List.prefix_refl _,Int.le_refl _,rfl,fun _ h=>.inl h,Nat.le_refl _⟩;have A2:oR c j M L L x (v9 x s d) (L.length+1)∧(v9 x s d).bo=max x.bo s∧(v9 x s d).known=true∧(v9 x s d).ar.done=(if(aD c j).succ∈c.nodes then max x.ar.done (min d L.length)else x.ar.done):=by
  unfold v9;rw[N.role,N.ao];split
  ·obtain⟨B1,B2⟩:=N1.done d;have K:=ir (Dz x s) d;exact⟨(A1.trans B1).ee om,K.bo,K.known,B2⟩
  ·exact⟨A1.ee om,rfl,rfl,rfl⟩
 obtain⟨A2,g2,k2,d2⟩:=A2;rw[Bu hh];split
 ·have K:=nb (v9 x s d);exact⟨(A2.trans A2.ni.hand).ee om,K.bo.trans g2,K.known.trans k2,by rw[tH];exact d2⟩
 ·exact⟨A2.ee om,g2,k2,d2⟩
theorem NI.tick (N:NI c j M L x):oR c j M L L x (aV x) 1∧(aV x).bo=x.bo∧(aV x).known=x.known∧(aV x).ar.done=x.ar.done:=by
 unfold aV;split
 ·exact⟨(oR.refl N).ee om,rfl,rfl,rfl⟩
 split
 ·have K:=nb x;exact⟨N.hand,K.bo,K.known,by rw[tH]⟩
 ·exact⟨(oR.refl N).ee om,rfl,rfl,rfl⟩
end
def zd (l:List Int) (a b:Int):Prop:=∃i:Nat,l[i]? =some a∧l[i+1]? =some b
structure Plain (c:CF):Prop where
 right:bp c
 fresh:c.fresh=false
 join:c.join=0
 nodup:c.nodes.Nodup
 mem:∀j∈c.nodes,1≤j∧j≤5
 chain:c.chain=0
theorem Bv {l:List Int} (hn:l.Nodup) {i k:Nat} (hi:i<l.length) (hk:k<l.length) (e:l[i]=l[k]):i=k:=by
 have h:=List.pairwise_iff_getElem.1 hn;rcases Nat.lt_trichotomy i k with q|q|q
 ·exact absurd e (h i k hi hk q)
 ·exact q
 ·exact absurd e.symm (h k i hk hi q)
theorem oj {l:List Int} (hn:l.Nodup) {i:Nat} {x:Int} (h:l[i]? =some x):iA x l=i:=by
 obtain⟨hi,rfl⟩:=List.getElem?_eq_some_iff.1 h;refine CX hi rfl fun hm=>?_;obtain⟨k,hk,e⟩:=List.mem_iff_getElem.1 hm;rw[List.getElem_take]at e;have pd:k<i:=by rw[List.length_take]at hk;omega
 have:=Bv hn (i:=k) (k:=i) om hi e;omega
theorem Plain.role {c:CF} (P:Plain c) {i:Nat} {x:Int} (h:c.nodes[i]? =some x):aD c x=⟨true,false,decide (i=0),decide (i+1=c.nodes.length),false,i,if 0<i then c.nodes.getD (i - 1) 0 else 0,if i+1=c.nodes.length then 0 else c.nodes.getD (i+1) 0⟩:=by
 have hx:=P.mem x (List.mem_of_getElem? h);have hi:=(List.getElem?_eq_some_iff.1 h).1;have hd:=oj P.nodup h;have ht:(x=dO c)↔i+1=c.nodes.length:=by
  obtain⟨_,rfl⟩:=List.getElem?_eq_some_iff.1 h;unfold dO;rw[List.getD_eq_getElem?_getD,List.getElem?_eq_getElem (show c.nodes.length - 1<c.nodes.length by omega)];show c.nodes[i]=c.nodes[c.nodes.length - 1]↔_;constructor
  ·intro e;have:=Bv P.nodup (i:=i) (k:=c.nodes.length - 1) om om e;omega
  ·intro e;have e:i=c.nodes.length - 1:=by omega
   subst e;rfl
 unfold aD;rw[if_neg om,if_neg (by rw[P.join];omega),hd,if_pos hi];have htb:decide (x=dO c)=decide (i+1=c.nodes.length):=decide_eq_decide.2 ht;dsimp only
 rw[htb,P.fresh,P.join,Bool.and_false];simp only[decide_eq_true_eq]
theorem Plain.at_ {c:CF} (_:Plain c) {x:Int} (h:x∈c.nodes):∃i:Nat,c.nodes[i]? =some x:=by
 obtain⟨i,hi,e⟩:=List.mem_iff_getElem.1 h;exact⟨i,by rw[List.getElem?_eq_getElem hi,e]⟩
theorem lU {l:List Int} {i:Nat} (h:i<l.length):l[i]? =some (l.getD i 0):=by rw[List.getD_eq_getElem?_getD,List.getElem?_eq_getElem h];rfl
theorem Plain.succ {c:CF} (P:Plain c) {a b:Int} (ha:a∈c.nodes) (h:(aD c a).succ=b) (hb:b≠0):zd c.nodes a b:=by
 obtain⟨i,hi⟩:=P.at_ ha;have hl:=(List.getElem?_eq_some_iff.1 hi).1;rw[P.role hi]at h;have h:(if i+1=c.nodes.length then(0:Int)else c.nodes.getD (i+1) 0)=b:=h;split at h
 ·exact absurd h.symm hb
 ·exact⟨i,hi,by rw[←h];exact lU om⟩
theorem Plain.pred {c:CF} (P:Plain c) {a b:Int} (hb:b∈c.nodes) (h:(aD c b).pred=a) (ha:a≠0):zd c.nodes a b:=by
 obtain⟨i,hi⟩:=P.at_ hb;have hl:=(List.getElem?_eq_some_iff.1 hi).1;rw[P.role hi]at h;have h:(if 0<i then c.nodes.getD (i - 1) 0 else 0)=a:=h;split at h
 ·refine⟨i - 1,by rw[←h];exact lU om,by rw[show i - 1+1=i by omega];exact hi⟩
 ·exact absurd h.symm ha
theorem zd.mem {l:List Int} {a b:Int} (h:zd l a b):a∈l∧b∈l:=by
 obtain⟨i,h1,h2⟩:=h;exact⟨List.mem_of_getElem? h1,List.mem_of_getElem? h2⟩
theorem zd.role {c:CF} (P:Plain c) {a b:Int} (h:zd c.nodes a b):(aD c a).succ=b∧(aD c b).pred=a∧(aD c a).tail=false∧a≠0∧b≠0:=by
 obtain⟨i,h1,h2⟩:=h;have ha:=P.mem a (List.mem_of_getElem? h1);have hb:=P.mem b (List.mem_of_getElem? h2);have hl:=(List.getElem?_eq_some_iff.1 h2).1;rw[P.role h1,P.role h2];refine⟨?_,?_,decide_eq_false om,om,om⟩
 ·show(if i+1=c.nodes.length then(0:Int)else c.nodes.getD (i+1) 0)=b;rw[if_neg om,List.getD_eq_getElem?_getD,h2];rfl
 ·show(if 0<i+1 then c.nodes.getD (i+1 - 1) 0 else 0)=a;rw[if_pos om,List.getD_eq_getElem?_getD,Nat.add_sub_cancel,h1];rfl
theorem zd.uniq {l:List Int} (hn:l.Nodup) {a b d:Int} (h:zd l a b) (k:zd l a d):b=d:=by
 obtain⟨i,h1,h2⟩:=h;obtain⟨i',k1,k2⟩:=k;have:i=i':=by rw[←oj hn h1,oj hn k1]
 subst this;rw[h2]at k2;exact Option.some.inj k2
theorem zd.abj {l:List Int} (hn:l.Nodup) {a b d:Int} (h:zd l a b) (k:zd l d b):a=d:=by
 obtain⟨i,h1,h2⟩:=h;obtain⟨i',k1,k2⟩:=k;have:i+1=i'+1:=by rw[←oj hn h2,oj hn k2]
 obtain rfl:i=i':=by omega
 rw[h1]at k1;exact Option.some.inj k1
def Mu (l:List Int) (a b:Int):Prop:=∃i k:Nat,i<k∧l[i]? =some a∧l[k]? =some b
theorem zd.M6 {l:List Int} {a b:Int} (h:zd l a b):Mu l a b:=by
 obtain⟨i,h1,h2⟩:=h;exact⟨i,i+1,om,h1,h2⟩
theorem Mu.pred {l:List Int} {a b:Int} (h:Mu l a b):∃p,zd l p b∧(a=p∨Mu l a p):=by
 obtain⟨i,k,h1,h2,h3⟩:=h;have hk:=(List.getElem?_eq_some_iff.1 h3).1;refine⟨l.getD (k - 1) 0,⟨k - 1,lU om,by rw[show k - 1+1=k by omega];exact h3⟩,?_⟩;rcases Nat.lt_or_ge i (k - 1)with q|q
 ·exact .inr ⟨i,k - 1,q,h2,lU om⟩
 ·obtain rfl:i=k - 1:=by omega
  have:=lU (l:=l) (i:=k - 1) om;rw[h2]at this;exact .inl (Option.some.inj this)
theorem Mu.succ {l:List Int} {a b:Int} (h:Mu l a b):∃s,zd l a s∧(b=s∨Mu l s b):=by
 obtain⟨i,k,h1,h2,h3⟩:=h;have hk:=(List.getElem?_eq_some_iff.1 h3).1;refine⟨l.getD (i+1) 0,⟨i,h2,lU om⟩,?_⟩;rcases Nat.lt_or_ge (i+1) k with q|q
 ·exact .inr ⟨i+1,k,q,lU om,h3⟩
 ·obtain rfl:k=i+1:=by omega
  have:=lU (l:=l) (i:=i+1) om;rw[h3]at this;exact .inl (Option.some.inj this)
theorem Mu.mem {l:List Int} {a b:Int} (h:Mu l a b):a∈l∧b∈l:=by
 obtain⟨i,k,_,h1,h2⟩:=h;exact⟨List.mem_of_getElem? h1,List.mem_of_getElem? h2⟩
theorem Mu.ne {l:List Int} (hn:l.Nodup) {a b:Int} (h:Mu l a b):a≠b:=by
 obtain⟨i,k,h1,h2,h3⟩:=h;rintro rfl;have:i=k:=by rw[←oj hn h2,oj hn h3]
 omega
def abk (node:Int):RS:=⟨node,⟨0,0,[],false,0⟩,uM,⟨0,[],hH⟩,⟨0,0,[]⟩,0,false,0,false,0,LD,[]⟩
def nd (all:List RS) (j:Int):RS:=(all[(j - 1).toNat]?).getD (abk 0)
structure CS where
 c:CF
 all:List RS
 said:List Lr
 num:Int
def XF (m:Lr):Prop:=(iB m.HZ∧iB m.to∧1≤m.aJ)∧
 ((∃s d us,m=r7 m.HZ m.to 0 m.aJ s d us∧us.length≤4∧us.all (okW false)=true)∨∃s d,m=qo m.HZ m.to 0 m.aJ 0 s d 0)
structure gJ (n:Nat) (w:CS) (g:Int→List bd):Prop where
 pl:Plain w.c
 len:w.all.length=n
 Ts:∀j∈w.c.nodes,j≤n
 num:0≤w.num
 ni:∀j∈w.c.nodes,NI w.c j w.num (g j) (nd w.all j)∧(nd w.all j).out=[]∧((g j).length:Int)≤w.num
 ah:∀a b,Mu w.c.nodes a b→g b<+:g a∧(nd w.all a).ar.done≤(nd w.all b).ar.done
 nx:∀a b,zd w.c.nodes a b→((nd w.all a).known=true→(nd w.all b).base≤(nd w.all a).bo∧(nd w.all a).bo≤(g b).length)∧((nd w.all a).ar.done≤(nd w.all b).base∨((nd w.all a).known=true∧(nd w.all a).ar.done≤(nd w.all a).bo))
 k0:∀j∈w.c.nodes,(nd w.all j).known=false→(nd w.all j).bo=0
 said:∀m∈w.said,(m.kind=18∧200≤m.to)∨(XF m∧m.aJ≤w.c.aJ∧(m.aJ=w.c.aJ→∃j∈w.c.nodes,LK w.c j (g j) (nd w.all j).ar.done (nd w.all j).base m))
theorem XG {all:List RS} {j k:Int} {y:RS} (hj:1≤j∧j≤all.length) (hk:1≤k):nd (all.set (j - 1).toNat y) k=if k=j then y else nd all k:=by
 unfold nd;by_cases e:k=j
 ·subst e;rw[if_pos rfl,List.getElem?_set_self om];rfl
 ·rw[if_neg e,List.getElem?_set_ne om]
theorem UG.okW {M:Int} {u:bd} (h:UG M u) (hs:1≤u.seq):Go.M.okW false u=true:=by
 rw[JB];have h1:=h.aj;have h2:=h.num;have h3:=h.data;unfold Sf;simp only[Bool.and_eq_true,Bool.not_eq_true',decide_eq_true_eq,decide_eq_false_iff_not];exact⟨om,h.aj,h.num.1,.inl ⟨h.kind,h.bA⟩,h.data⟩
theorem LG.seq1 {M:Int} {L:List bd} (h:LG M L) {u:bd} (hu:u∈L):1≤u.seq∧u.seq≤L.length:=by
 obtain⟨i,hi,e⟩:=List.mem_iff_getElem.1 hu;have:=h.seq i u (by rw[List.getElem?_eq_getElem hi,e]);omega
theorem LK.shp {c:CF} (P:Plain c) {j M:Int} (hj:j∈c.nodes) {L:List bd} (hL:LG M L) {d b:Int} {m:Lr} (h:LK c j L d b m):(m.kind=18∧200≤m.to)∨(XF m∧m.aJ=c.aJ):=by
 have hje:=P.mem j hj;have Io:=P.right.2.1;rcases h with h|⟨s,dd,us,h1,h2,h3,h4⟩|⟨s,dd,h1,h2,_⟩
 ·exact .inl h
 ·obtain⟨_,hs⟩:=(P.succ hj rfl h2).mem;have hk:=P.mem _ hs;rw[P.chain]at h1;refine .inr ⟨⟨⟨by rw[h1];exact .inl (by show 1≤j∧j≤24;omega),by rw[h1];exact .inl (by show 1≤(aD c j).succ∧(aD c j).succ≤24;omega),by rw[h1];exact Io⟩,.inl ⟨s,dd,us,by rw[h1],h3,List.all_eq_true.2 fun u hu=>(hL.ok u (h4 u hu)).okW (hL.seq1 (h4 u hu)).1⟩⟩,by rw[h1]⟩
 ·obtain⟨hs,_⟩:=(P.pred hj rfl h2).mem;have hk:=P.mem _ hs;rw[P.chain]at h1;refine .inr ⟨⟨⟨by rw[h1];exact .inl (by show 1≤j∧j≤24;omega),by rw[h1];exact .inl (by show 1≤(aD c j).pred∧(aD c j).pred≤24;omega),by rw[h1];exact Io⟩,.inr ⟨s,dd,by rw[h1]⟩⟩,by rw[h1]⟩
section
variable {n:Nat} {w:CS} {g:Int→List bd}
theorem gJ.hc (I:gJ n w g) {j:Int} (hj:j∈w.c.nodes):HC (nd w.all j) (g j).length:=by
 obtain⟨N,_,_⟩:=I.ni j hj;by_cases hs:(nd w.all j).role.succ=0
 ·exact .inl hs
 cases hk:(nd w.all j).known with
 |false=>exact .inr (.inl hk)
 |true=>
  have hn:=I.pl.succ hj rfl (by rw[←N.role];exact hs);obtain⟨h1,h2⟩:=I.nx _ _ hn;obtain⟨h3,h4⟩:=h1 hk;have h5:=(I.ah _ _ hn.M6).1.length_le;refine .inr (.inr ⟨?_,om⟩);rcases h2 with h2|⟨_,h2⟩<;>omega
theorem gJ.op (I:gJ n w g) {j M':Int} (hj:j∈w.c.nodes) (hM:w.num≤M') {L':List bd} {y:RS} {k:Nat} (A:oR w.c j M' (g j) L' (nd w.all j) y k) (hL:(L'.length:Int)≤M')
 (Tt:∀p,zd w.c.nodes p j→L'<+:g p) (Bf:∀b,zd w.c.nodes j b→y.ar.done≤(nd w.all b).ar.done)
 (Gr:∀b,zd w.c.nodes j b→(y.known=true→(nd w.all b).base≤y.bo∧y.bo≤(g b).length)∧(y.ar.done≤(nd w.all b).base∨(y.known=true∧y.ar.done≤y.bo)))
 (Kp:y.known=false→y.bo=0) {cV:List Lr} (hs:∀m∈cV,m∈w.said):gJ n ⟨w.c,w.all.set (j - 1).toNat (bG y),cV++y.out,M'⟩ (fun i=>if i=j then L' else g i):=by
 have hjm:=I.pl.mem j hj;have hjn:=I.Ts j hj;have hlen:=I.len;have oQ:∀i∈w.c.nodes,nd (w.all.set (j - 1).toNat (bG y)) i=if i=j then bG y else nd w.all i:=fun i hi=>XG om (I.pl.mem i hi).1
 have Nh:(nd w.all j).out=[]:=(I.ni j hj).2.1;refine⟨I.pl,by rw[List.length_set];exact hlen,I.Ts,by have:=I.num;show 0≤M';omega,fun i hi=>?_,fun a b Dw=>?_,fun a b Dw=>?_,fun i hi=>?_,fun m hm=>?_⟩
 ·rw[oQ i hi];by_cases e:i=j
  ·subst e;rw[if_pos rfl,if_pos rfl];have N:=A.ni;exact⟨⟨N.node,N.ao,N.role,N.cU,N.comes,N.log,N.st,N.sg,N.ar,N.base,N.M0⟩,rfl,hL⟩
  ·rw[if_neg e,if_neg e];obtain⟨N,h1,h2⟩:=I.ni i hi;exact⟨N.mono hM,h1,by show((g i).length:Int)≤M';omega⟩
 ·obtain⟨ha,hb⟩:=Dw.mem;have bc:=Dw.ne I.pl.nodup;show(if b=j then L' else g b)<+:(if a=j then L' else g a)∧_;rw[oQ a ha,oQ b hb];obtain⟨h1,h2⟩:=I.ah a b Dw;by_cases ea:a=j
  ·subst ea;have eb:¬b=a:=fun q=>bc q.symm;rw[if_pos rfl,if_neg eb,if_pos rfl,if_neg eb];refine⟨h1.trans A.pre,?_⟩;obtain⟨s,q1,q2⟩:=Dw.succ;have:=Bf s q1;show y.ar.done≤_;rcases q2 with rfl |q2
   ·exact this
   ·exact Int.le_trans this (I.ah _ _ q2).2
  ·by_cases eb:b=j
   ·subst eb;rw[if_pos rfl,if_neg ea,if_pos rfl,if_neg ea];refine⟨?_,Int.le_trans h2 A.done⟩;obtain⟨p,q1,q2⟩:=Dw.pred;have:=Tt p q1;rcases q2 with rfl |q2
    ·exact this
    ·exact this.trans (I.ah _ _ q2).1
   ·rw[if_neg eb,if_neg ea,if_neg ea,if_neg eb];exact⟨h1,h2⟩
 ·obtain⟨ha,hb⟩:=Dw.mem;have bc:=Dw.M6.ne I.pl.nodup;show(_→_∧_≤((if b=j then L' else g b).length:Int))∧_;rw[oQ a ha,oQ b hb];by_cases ea:a=j
  ·subst ea;have eb:¬b=a:=fun q=>bc q.symm;rw[if_pos rfl,if_neg eb,if_neg eb];exact Gr b Dw
  ·by_cases eb:b=j
   ·subst eb;rw[if_pos rfl,if_neg ea,if_pos rfl];obtain⟨h1,h2⟩:=I.nx a b Dw;have bX:(bG y).base=(nd w.all b).base:=A.base;rw[bX];exact⟨fun q=>⟨(h1 q).1,by have:=(h1 q).2;have:=A.pre.length_le;omega⟩,h2⟩
   ·rw[if_neg eb,if_neg ea,if_neg eb];exact I.nx a b Dw
 ·rw[oQ i hi];by_cases e:i=j
  ·rw[if_pos e];exact Kp
  ·rw[if_neg e];exact I.k0 i hi
 ·have bl:∀i∈w.c.nodes,∀m,LK w.c i (g i) (nd w.all i).ar.done (nd w.all i).base m→LK w.c i (if i=j then L' else g i) (nd (w.all.set (j - 1).toNat (bG y)) i).ar.done (nd (w.all.set (j - 1).toNat (bG y)) i).base m:=fun i hi m h=>by
   rw[oQ i hi];by_cases e:i=j
   ·subst e;rw[if_pos rfl,if_pos rfl];show LK w.c i L' y.ar.done y.base m;rw[A.base];exact h.mono A.pre A.done
   ·rw[if_neg e,if_neg e];exact h
  rcases List.mem_append.1 hm with q|q
  ·rcases I.said m (hs m q)with r|⟨r1,r2,r3⟩
   ·exact .inl r
   ·exact .inr ⟨r1,r2,fun e=>by
     obtain⟨i,hi,hl⟩:=r3 e;exact⟨i,hi,bl i hi m hl⟩⟩
  ·rcases A.Mt m q with r|r
   ·rw[Nh]at r;cases r
   ·rcases r.shp I.pl hj A.ni.log with s|⟨s1,s2⟩
    ·exact .inl s
    ·refine .inr ⟨s1,by rw[s2];exact Int.le_refl _,fun _=>⟨j,hj,?_⟩⟩;rw[oQ j hj,if_pos rfl,if_pos rfl];exact r
end
set_option maxHeartbeats 4000000
theorem Dd (x:RS) (f t ch e:Int) (u:bd) (H:tC x.ar) (Bf:x.ar.done≤aO x.ar) (ho:x.cU=true) (hj:bV x.st.t u.aj u.num=0) (hd:¬jr x.ar<16):
 VC E0 44 1 [.ptr 0 0,.agg (aE (wJ f t ch e [u]))] (gX x) (RR (.dF []) 1 (gX x)):=by
 have hju:=y8 x.st u.aj u.num;rw[hj]at hju;have tU:=Fv x.ar H Bf;rw[decide_eq_false hd]at tU;obtain⟨node,ao,role,st,ar,base,cU,bo,known,want,comes,out⟩:=x;have ho:cU=true:=ho;subst ho;refine en L0 Tryz.f44 ?_;refine⟨b6 u,⟨by decide,rfl⟩,?_⟩;refine wh ?_;refine⟨[],[some 3],_,_,_,_,hju,t3,cw ?_⟩
 repeat((first|(refine⟨fun h_=>?_,fun h_=>?_⟩)|(refine aA (fun h_=>?_) (fun h_=>?_))|(refine az (fun h_=>?_) (fun h_=>?_)))<;>first|(exfalso;revert h_;decide;done)|(exact absurd rfl h_)|(have bq:=True.intro;clear bq;(conv=>whnf)))
 refine⟨[],[some 5],_,_,_,_,tU,t3,cw ?_⟩;exact⟨[],[some 0],_,_,_,t3,rfl,rfl,rfl⟩
theorem FK (x:RS) (f:Int) (u:bd) (H:bp x.ao) (hf:201≤f∧f≤206) (hn:iB x.node) (hu:okW true u=true) (h:(aD x.ao x.node).head=true)
 (Hw:tC x.ar) (Bf:x.ar.done≤aO x.ar) (ho:x.cU=true) (hj:bV x.st.t u.aj u.num=0) (hd:¬jr x.ar<16):
 VC E0 17 1 [.ptr 0 0,.agg (aE (wJ f x.node x.ao.chain x.ao.aJ [u]))] (gX x) (qQ x):=by
 have zb:=JQ x.ao H x.node f u hf hn hu h;have Q8:=Dd x f x.node x.ao.chain x.ao.aJ u Hw Bf ho hj hd;refine en L0 Tryz.f17 ?_;refine⟨[],[],_,_,_,_,zb,t3,cw ?_⟩
 ((first|(refine⟨fun h_=>?_,fun h_=>?_⟩)|(refine aA (fun h_=>?_) (fun h_=>?_))|(refine az (fun h_=>?_) (fun h_=>?_)))<;>first|(exfalso;revert h_;decide;done)|(exact absurd rfl h_)|(have bq:=True.intro;clear bq;((conv=>whnf)<;>repeat(with_reducible refine D1 ?_)<;>conv=>whnf)))
 refine sp ?_ ?_<;>intro XC
 ·refine wh ?_;refine⟨[],[some 0],_,_,_,_,Q8,t3,cw ?_⟩;refine⟨[],[some 0],_,_,_,_,dH x,t3,cw ?_⟩;exact⟨[],[some 0,some 4],_,_,_,t3,rfl,rfl,rfl⟩
 ·exact absurd rfl XC
theorem Ip (c:CF) (H:bp c) (node f ep s d:Int) (us:List bd) (hf:iB f) (hn:iB node) (XH:1≤ep) (hl:us.length≤4) (hu:us.all (okW false)=true) (he:ep≠c.aJ):
 VC E0 42 0 [.agg (b9 c),.s (.int .i64 node),.agg (aE (r7 f node c.chain ep s d us))] [] (RR (.s (.int .i64 10)) 0 []):=by
 have kr:=qp f node c.chain ep s d us hf hn H.1 XH hl;rw[if_pos hu]at kr;refine en L0 Tryz.f42 ?_;refine⟨[],[],_,_,_,_,kr,t3,cw ?_⟩
 repeat((first|(refine⟨fun h_=>?_,fun h_=>?_⟩)|(refine aA (fun h_=>?_) (fun h_=>?_))|(refine az (fun h_=>?_) (fun h_=>?_)))<;>first|(exfalso;revert h_;decide;done)|(exact absurd rfl h_)|(have bq:=True.intro;clear bq;(conv=>whnf)))
 refine⟨[],[],_,_,_,_,lh c H,t3,cw ?_⟩;refine⟨[],[],_,_,_,_,m9 12 (.inl rfl),t3,cw ?_⟩
 ((first|(refine⟨fun h_=>?_,fun h_=>?_⟩)|(refine aA (fun h_=>?_) (fun h_=>?_))|(refine az (fun h_=>?_) (fun h_=>?_)))<;>first|(exfalso;revert h_;decide;done)|(exact absurd rfl h_)|(have bq:=True.intro;clear bq;(conv=>whnf)))
 refine sp ?_ ?_<;>intro Io;rotate_left
 ·exact absurd he Io
 refine wh ?_;exact⟨[],[],_,_,_,t3,rfl,rfl,rfl⟩
theorem Iq (c:CF) (H:bp c) (node f ep n s d sl:Int) (hf:iB f) (hn:iB node) (XH:1≤ep) (DK:0≤sl∧sl≤512) (he:ep≠c.aJ):
 VC E0 42 0 [.agg (b9 c),.s (.int .i64 node),.agg (aE (qo f node c.chain ep n s d sl))] [] (RR (.s (.int .i64 10)) 0 []):=by
 have kr:=yT f node c.chain ep n s d sl hf hn H.1 XH DK;refine en L0 Tryz.f42 ?_;refine⟨[],[],_,_,_,_,kr,t3,cw ?_⟩
 repeat((first|(refine⟨fun h_=>?_,fun h_=>?_⟩)|(refine aA (fun h_=>?_) (fun h_=>?_))|(refine az (fun h_=>?_) (fun h_=>?_)))<;>first|(exfalso;revert h_;decide;done)|(exact absurd rfl h_)|(have bq:=True.intro;clear bq;(conv=>whnf)))
 refine⟨[],[],_,_,_,_,lh c H,t3,cw ?_⟩;refine⟨[],[],_,_,_,_,m9 13 (.inr (.inl rfl)),t3,cw ?_⟩
 ((first|(refine⟨fun h_=>?_,fun h_=>?_⟩)|(refine aA (fun h_=>?_) (fun h_=>?_))|(refine az (fun h_=>?_) (fun h_=>?_)))<;>first|(exfalso;revert h_;decide;done)|(exact absurd rfl h_)|(have bq:=True.intro;clear bq;(conv=>whnf)))
 refine sp ?_ ?_<;>intro Io;rotate_left
 ·exact absurd he Io
 refine wh ?_;exact⟨[],[],_,_,_,t3,rfl,rfl,rfl⟩
theorem Tu (x:RS) (m:Lr) (zb:VC E0 42 0 [.agg (b9 x.ao),.s (.int .i64 x.node),.agg (aE m)] [] (RR (.s (.int .i64 10)) 0 [])):
 VC E0 17 1 [.ptr 0 0,.agg (aE m)] (gX x) (RR (.sl 0 [] true) 1 (gX x)):=by
 refine en L0 Tryz.f17 ?_;refine⟨[],[],_,_,_,_,zb,t3,cw ?_⟩
 repeat((first|(refine⟨fun h_=>?_,fun h_=>?_⟩)|(refine aA (fun h_=>?_) (fun h_=>?_))|(refine az (fun h_=>?_) (fun h_=>?_)))<;>first|(exfalso;revert h_;decide;done)|(exact absurd rfl h_)|(have bq:=True.intro;clear bq;((conv=>whnf)<;>repeat(with_reducible refine D1 ?_)<;>conv=>whnf)))
 exact⟨[],[some 0],_,_,_,t3,rfl,rfl,rfl⟩
section
variable {c:CF} {j M:Int} {L:List bd} {x:RS}
theorem NI.z6 (N:NI c j M L x) (hL:L.length≤5000) (_:M≤40000) (ho:x.out.length<50000):fB x:=by
 have h1:=N.ar.low;have h2:=N.ar.ld;have h3:=N.ar.de;have he:=N.ar.end_;have hse:=N.e;refine⟨⟨om,om,?_,fun u hu=>?_⟩,N.sg.P9 om,N.sg.Qa,om,by omega,by have:=N.sg.len;omega,ho⟩
 ·rw[N.ar.l,List.length_drop];omega
 ·rw[N.ar.l]at hu;exact(N.log.ok u (List.mem_of_mem_drop hu)).data
theorem NI.uU (N:NI c j M L x) (h:HC x L.length) (hL:L.length≤5000) (hM:M≤40000) (ho:x.out.length<50000):js x:=⟨(N.z6 hL hM ho).ar,ho,h.from_ N 4⟩
theorem NI.abl (N:NI c j M L x) {u:bd} (hu:UG M u) (hs:u.seq=(L.length:Int)+1) (hL:L.length≤5000) (hM:M≤40000):FD x u:=by
 have h1:=hu.num;have h2:=hu.bA;have h3:=hu.key;refine⟨⟨om,om,by omega,om⟩,hu.chk om,by rw[N.ar.end_];omega,om,?_⟩;rw[N.ar.l,List.length_drop];omega
theorem Plain.iB {c:CF} (P:Plain c) {j:Int} (hj:j∈c.nodes):Go.M.iB j:=.inl (by have:=P.mem j hj;omega)
theorem Plain.Ir {c:CF} (P:Plain c) {j:Int} (hj:j∈c.nodes):(aD c j).lP=false∧((aD c j).tail=true→(aD c j).succ=0):=by
 obtain⟨i,hi⟩:=P.at_ hj;rw[P.role hi];refine⟨rfl,fun h=>?_⟩;have h:i+1=c.nodes.length:=by simpa using h
 show(if i+1=c.nodes.length then(0:Int)else _)=0;rw[if_pos h]
theorem HC.bl {x y:RS} {n m:Nat} (h:HC x n) (K:fY x y) (hd:x.role.succ=0∨y.ar.done=x.ar.done) (hn:n≤m):HC y m:=by
 rcases h with h|h|⟨h1,h2⟩
 ·exact .inl (by rw[K.role];exact h)
 ·exact .inr (.inl (by rw[K.known];exact h))
 ·rcases hd with hd|hd
  ·exact .inl (by rw[K.role];exact hd)
  ·exact .inr (.inr ⟨by rw[hd,K.bo];exact h1,by rw[K.bo];omega⟩)
theorem NI.aeC (N:NI c j M L x) (P:Plain c) (hj:j∈c.nodes) (hc:HC x L.length) (hL:L.length≤3000) (hM:M≤40000) (ho:x.out=[]) {f s d:Int} {us:List bd} (hf:Go.M.iB f) (hus:us.length≤4)
 (hu:∀u∈us,UG M u∧1≤u.seq∧u.seq≤40000) (hp:(aD c j).pred≠0∧f=(aD c j).pred):
 VC E0 17 1 [.ptr 0 0,.agg (aE (r7 f j c.chain c.aJ s d us))] (gX x) (qQ (pH x d us)):=by
 have hug:∀u∈us,UG M u:=fun u h=>(hu u h).1;obtain⟨hnj,oz⟩:=P.Ir hj;obtain⟨A1,K1,D1⟩:=N.fO us hug;obtain⟨A2,K2,D2⟩:=N.oC us hug hnj;have ud:=pN us L.length;have hlen:(L++bz us L.length).length≤5000:=by rw[List.length_append];omega
 have YV:L.length≤(L++bz us L.length).length:=by rw[List.length_append];omega
 have e3:=N.Dy d us P.fresh;have o1:=A1.len;have o2:=A2.len;rw[ho]at o1 o2;have G1:fB (Go.M.fO x us):=A1.ni.z6 hlen hM (by simp at o1;simp[o1]);have G3:fB (Go.M.oC x us):=A2.ni.z6 hlen hM (by simp at o2;omega);have A3:=A2.ni.ack;have D3:(ic (Go.M.oC x us)).ar.done=(Go.M.oC x us).ar.done:=by unfold ic;split<;>rfl
 have Ud:HC (ic (Go.M.oC x us)) (L++bz us L.length).length:=hc.bl (K2.trans (za _)) (by
  rw[D3,D2];cases ht:(aD c j).tail with
  |true=>exact .inl (by rw[N.role];exact oz ht)
  |false=>exact .inr (by rw[if_neg Bool.noConfusion])) YV
 have G2:js (ic (Go.M.Dy x d us)):=by
  rw[e3];exact A3.ni.uU Ud hlen hM (by have:=A3.len;simp at o2;omega)
 have tf:∀(i:Nat) (h:i<(bz us (aO x.ar)).length),fB (((bz us (aO x.ar)).take i).foldl te x)∧FD (((bz us (aO x.ar)).take i).foldl te x) (bz us (aO x.ar))[i]:=by
  rw[N.ar.end_];intro i hi;have l7:∀u∈(bz us (L.length:Int)).take i,UG M u:=fun u h=>hug u (nf _ _ u (List.mem_of_mem_take h));have A:=NI.ups ((bz us (L.length:Int)).take i) N l7 (fun k u hk=>by
   rw[List.getElem?_take]at hk;split at hk
   ·exact ng _ _ k u hk
   ·cases hk)
  have Gk:(L++(bz us (L.length:Int)).take i).length=L.length+i:=by rw[List.length_append,List.length_take];omega
  have oa:=A.len;rw[ho]at oa;refine⟨A.ni.z6 om hM (by simp at oa;simp[oa]),A.ni.abl (hug _ (nf _ _ _ (List.getElem_mem hi))) ?_ om hM⟩;have:=ng us L.length i _ (List.getElem?_eq_getElem hi);rw[Gk];omega
 have hd:∀u∈us,u.data.length≤2048∧Pv u:=fun u h=>by
  obtain⟨a1,a2,a3⟩:=hu u h;have h1:=a1.num;have h2:=a1.bA;have h3:=a1.key;exact⟨a1.data,⟨om,om,by omega,om⟩⟩
 have hw:us.all (okW false)=true:=List.all_eq_true.2 fun u h=>(hu u h).1.okW (hu u h).2.1;have V:=Mk x f s d us (by rw[N.ao];exact P.right) hf (by rw[N.node];exact P.iB hj) hw (by rw[N.ao,N.node];exact hp) (N.z6 om hM (by rw[ho];decide)) (fun _=>by rw[N.role];exact hnj) hus hd tf G1 G2 G3;rw[N.node,N.ao]at V;exact V
theorem NI.aeD (N:NI c j M L x) (P:Plain c) (hj:j∈c.nodes) (hL:L.length≤3000) (hM:M≤40000) (ho:x.out=[]) {f s d:Int} (hf:Go.M.iB f) (hs:0≤d∧d≤s) (zz:(aD c j).succ≠0∧f=(aD c j).succ)
 (hg:x.ar.done≤max x.bo s∧max x.bo s≤L.length):VC E0 17 1 [.ptr 0 0,.agg (aE (qo f j c.chain c.aJ 0 s d 0))] (gX x) (qQ (la x s d)):=by
 have hld:=N.ar.ld;have hh:(je x.ar (max x.bo s) 0).isSome=true:=by
  unfold je;rw[if_neg (by rw[N.ar.end_];omega)];rfl
 have N1:NI c j M L (Dz x s):=⟨N.node,N.ao,N.role,N.cU,N.comes,N.log,N.st,N.sg,N.ar,N.base,N.M0⟩;have G1:fB (Dz x s):=N1.z6 om hM (by show x.out.length<_;rw[ho];decide);have G2:js (v9 x s d):=by
  unfold v9;split
  ·obtain⟨B1,B2⟩:=N1.done d;have K:=ir (Dz x s) d;have o:=B1.len;refine B1.ni.uU (.inr (.inr ⟨?_,by rw[K.bo];exact hg.2⟩)) om hM (by have:(Dz x s).out=[]:=ho;rw[this]at o;simp at o;omega);rw[B2,K.bo];show max x.ar.done (min d L.length)≤max x.bo s;omega
  ·exact N1.uU (.inr (.inr hg)) om hM (by show x.out.length<_;rw[ho];decide)
 have V:=Ml x f 0 s d 0 (by rw[N.ao];exact P.right) hf (by rw[N.node];exact P.iB hj) (by decide) (by rw[N.ao,N.node];exact zz) (N.z6 om hM (by rw[ho];decide)).ar G1 hh ⟨hs.1,om⟩ G2;rw[N.node,N.ao]at V;exact V
theorem NI.aeE (N:NI c j M L x) (P:Plain c) (hj:j∈c.nodes) (hc:HC x L.length) (hL:L.length≤3000) (hM:M≤40000) (ho:x.out=[]) {f:Int} {u:bd} (hf:201≤f∧f≤206) (hu:UG M {u with seq:=(L.length:Int)+1}) (Vg:u.seq=0)
 (hh:(aD c j).head=true) (XI:bV x.st.t u.aj u.num=0):VC E0 17 1 [.ptr 0 0,.agg (aE (wJ f j c.chain c.aJ [u]))] (gX x) (qQ (gG x u)):=by
 obtain⟨hnj,oz⟩:=P.Ir hj;have hw:okW true u=true:=by
  have h1:=hu.aj;have h2:=hu.num;have h3:=hu.data;unfold okW;simp only[Bool.and_eq_true,beq_iff_eq,decide_eq_true_eq];exact⟨by rw[decide_eq_true Vg],hu.aj,hu.num.1,.inl ⟨hu.kind,hu.bA⟩,hu.data⟩
 have hG:=N.z6 om hM (by rw[ho];decide);by_cases hd:jr x.ar<16;rotate_left
 ·have e:gG x u=x:=by
   unfold gG;rw[if_neg (by rw[N.cU];exact Bool.noConfusion),if_neg (by rw[XI];decide),if_pos XI,if_neg hd]
  rw[e];have V:=FK x f u (by rw[N.ao];exact P.right) hf (by rw[N.node];exact P.iB hj) hw (by rw[N.ao,N.node];exact hh) hG.ar hG.dn N.cU XI hd;rw[N.node,N.ao]at V;exact V
 have e1:jU x u=te x {u with seq:=(L.length:Int)+1}:=by
  show te x (u2 x u)=_;unfold u2;rw[N.ar.end_]
 have eu:u2 x u={u with seq:=(L.length:Int)+1}:=by unfold u2;rw[N.ar.end_]
 have A1:=N.up (u:={u with seq:=(L.length:Int)+1}) hu rfl;rw[←e1]at A1;have K1:fY x (jU x u):=Da x _;have Qe:(jU x u).ar.done=x.ar.done:=by rw[e1];exact(N.ar.add (u:={u with seq:=(L.length:Int)+1}) hu rfl).2
 have zF:(L++[{u with seq:=(L.length:Int)+1}]).length=L.length+1:=by rw[List.length_append];rfl
 have o1:(jU x u).out=[]:=ho;have G1:fB (jU x u):=A1.ni.z6 om hM (by rw[o1];decide);have G2:js (v8 x u):=by
  cases ht:(aD c j).tail with
  |true=>
   have e:v8 x u=cO (jU x u) (aO (jU x u).ar):=if_pos (by rw[N.role];exact ht);rw[e];obtain⟨B1,B2⟩:=A1.ni.done (aO (jU x u).ar);have o2:=B1.len;exact B1.ni.uU (hc.bl (K1.trans (ir _ _)) (.inl (by rw[N.role];exact oz ht)) om) om hM (by rw[o1]at o2;have o3:(cO (jU x u) (aO (jU x u).ar)).out.length≤0+((L++[{u with seq:=(L.length:Int)+1}]).length+1):=o2;omega)
  |false=>
   have e:v8 x u=jU x u:=if_neg (by rw[N.role,ht];exact Bool.noConfusion);rw[e];exact A1.ni.uU (hc.bl K1 (.inr Qe) om) om hM (by rw[o1];decide)
 have V:=Mm x f u (by rw[N.ao];exact P.right) hf (by rw[N.node];exact P.iB hj) hw (by rw[N.ao,N.node];exact hh) hG N.cU XI hd (by rw[eu];exact N.abl hu rfl om hM) G1 G2;rw[N.node,N.ao]at V;exact V
theorem NI.Is (N:NI c j M L x) (P:Plain c) (hc:HC x L.length) (hL:L.length≤3000) (hM:M≤40000) (ho:x.out=[]):VC E0 22 1 [.ptr 0 0] (gX x) (JP x):=by
 have G:=N.z6 om hM (by rw[ho];decide);exact Tk x (by rw[N.ao];have:=P.right.2.2.1;omega) G.ar G.dn (N.uU hc om hM (by rw[ho];decide))
end
theorem Iu {p l G:List bd} (hp:p<+:G) (h:∀(k:Nat) u,l[k]? =some u→G[p.length+k]? =some u):p++l<+:G:=by
 obtain⟨q,rfl⟩:=hp;have h2:∀(k:Nat) u,l[k]? =some u→q[k]? =some u:=fun k u hk=>by
  have:=h k u hk
  rwa [List.getElem?_append_right om,Nat.add_sub_cancel_left]at this
 have:l<+:q:=by
  clear h
  induction l generalizing q with
  |nil=>exact List.nil_prefix
  |cons u l ih=>
   have h0:=h2 0 u rfl;cases q with
   |nil=>cases h0
   |cons v q=>
    simp at h0;subst h0;exact(List.cons_prefix_cons).2 ⟨rfl,ih q fun k u hk=>by simpa using h2 (k+1) u (by simpa using hk)⟩
 exact(List.prefix_append_right_inj p).2 this
section
variable {n:Nat} {w:CS} {g:Int→List bd}
theorem gJ.tick (I:gJ n w g) {j:Int} (hj:j∈w.c.nodes):∃L',gJ n ⟨w.c,w.all.set (j - 1).toNat (bG (aV (nd w.all j))),w.said++(aV (nd w.all j)).out,w.num⟩ (fun i=>if i=j then L' else g i)∧g j<+:L':=by
 obtain⟨N,ho,hl⟩:=I.ni j hj;obtain⟨A,h1,h2,h3⟩:=N.tick;refine⟨_,I.op hj (Int.le_refl _) A hl (fun p hp=>(I.ah _ _ hp.M6).1) (fun b hb=>by rw[h3];exact(I.ah _ _ hb.M6).2) (fun b hb=>?_) (by rw[h1,h2];exact I.k0 j hj) (fun m h=>h),A.pre⟩;rw[h1,h2,h3];exact I.nx _ _ hb
theorem gJ.Is (I:gJ n w g) {j:Int} (hj:j∈w.c.nodes) (hb:w.num≤2000):VC E0 22 1 [.ptr 0 0] (gX (nd w.all j)) (JP (nd w.all j)):=by
 obtain⟨N,ho,hl⟩:=I.ni j hj;exact N.Is I.pl (I.hc hj) om om ho
theorem gJ.take (I:gJ n w g) (hb:w.num≤2000) {m:Lr} (hm:m∈w.said) {j:Int} (ly:m.to=j) (hj:j∈w.c.nodes) {cV:List Lr} (hs:∀m∈cV,m∈w.said):
 ∃y L',(VC E0 17 1 [.ptr 0 0,.agg (aE m)] (gX (nd w.all j)) (qQ y)∨(y=nd w.all j∧y.out=[]∧VC E0 17 1 [.ptr 0 0,.agg (aE m)] (gX (nd w.all j)) (RR (.sl 0 [] true) 1 (gX (nd w.all j)))))∧y.out.length≤3000∧
  gJ n ⟨w.c,w.all.set (j - 1).toNat (bG y),cV++y.out,w.num⟩ (fun i=>if i=j then L' else g i)∧g j<+:L':=by
 obtain⟨N,ho,hl⟩:=I.ni j hj;have hjm:=I.pl.mem j hj;rcases I.said m hm with⟨_,h1⟩|⟨hsh,he,QW⟩
 ·omega
 have DX:gJ n ⟨w.c,w.all.set (j - 1).toNat (bG (nd w.all j)),cV++(nd w.all j).out,w.num⟩ (fun i=>if i=j then g j else g i):=
  I.op hj (Int.le_refl _) (oR.refl N) hl (fun p hp=>(I.ah _ _ hp.M6).1) (fun b hb=>(I.ah _ _ hb.M6).2) (fun b hb=>I.nx _ _ hb) (I.k0 j hj) hs
 by_cases Io:m.aJ=w.c.aJ;rotate_left
 ·refine⟨nd w.all j,_,.inr ⟨rfl,ho,Tu _ m ?_⟩,by rw[ho];exact Nat.zero_le _,DX,List.prefix_refl _⟩;obtain⟨⟨a1,a2,a3⟩,hk⟩:=hsh;rw[N.ao,N.node];rcases hk with⟨s,d,us,e,h1,h2⟩|⟨s,d,e⟩
  ·have:=Ip w.c I.pl.right j m.HZ m.aJ s d us a1 (I.pl.iB hj) a3 h1 h2 Io;rw[I.pl.chain]at this;rw[e,ly];exact this
  ·have:=Iq w.c I.pl.right j m.HZ m.aJ 0 s d 0 a1 (I.pl.iB hj) a3 (by decide) Io;rw[I.pl.chain]at this;rw[e,ly];exact this
 obtain⟨i,hi,hL⟩:=QW Io;obtain⟨Ni,_,_⟩:=I.ni i hi;have him:=I.pl.mem i hi;rcases hL with⟨_,h1⟩|⟨s,d,us,e,h1,h2,h3⟩|⟨s,d,e,h1,h2,h3,h4,h5,h6⟩
 ·omega
 ·-- a push
  have Dq:zd w.c.nodes i j:=by
   have:=I.pl.succ hi rfl h1
   rwa [show(aD w.c i).succ=j by rw[←ly,e]]at this
  obtain⟨r1,r2,r3,r4,r5⟩:=Dq.role I.pl;obtain⟨hnj,oz⟩:=I.pl.Ir hj;have hus:∀u∈us,UG w.num u:=fun u hu=>Ni.log.ok u (h3 u hu);obtain⟨A,q1,q2,q3⟩:=N.push d us hus hnj I.pl.fresh;have Tt:g j++bz us (g j).length<+:g i:=by
   refine Iu (I.ah _ _ Dq.M6).1 fun k u hk=>?_;have hu:=h3 u (nf _ _ u (List.mem_of_getElem? hk));obtain⟨x,hx,ex⟩:=List.mem_iff_getElem.1 hu;have Wo:=ng us (g j).length k u hk;have hsx:=Ni.log.seq x u (by rw[List.getElem?_eq_getElem hx,ex]);obtain rfl:x=(g j).length+k:=by omega
   rw[List.getElem?_eq_getElem hx,ex]
  have Yy:=Tt.length_le;have hgi:=(I.ni i hi).2.2;have Vh:=A.len;rw[ho]at Vh;refine⟨pH (nd w.all j) d us,_,.inl ?_,?_,I.op hj (Int.le_refl _) A om (fun p hp=>?_) (fun b hb=>?_) (fun b hb=>?_) (by rw[q1,q2];exact I.k0 j hj) hs,A.pre⟩
  ·have:=N.aeC I.pl hj (I.hc hj) om om ho (f:=i) (s:=s) (d:=d) (us:=us) (I.pl.iB hi) h2 (fun u hu=>⟨hus u hu,(Ni.log.seq1 (h3 u hu)).1,by have:=(Ni.log.seq1 (h3 u hu)).2;omega⟩) ⟨by rw[r2];exact r4,r2.symm⟩;rw[e,r1];exact this
  ·simp only[List.length_nil,Nat.zero_add]at Vh;omega
  ·rw[hp.abj I.pl.nodup Dq];exact Tt
  ·rw[q3,if_neg (by rw[(hb.role I.pl).2.2.1];exact Bool.noConfusion)];exact(I.ah _ _ hb.M6).2
  ·rw[q1,q2,q3,if_neg (by rw[(hb.role I.pl).2.2.1];exact Bool.noConfusion)];exact I.nx _ _ hb
 ·-- how far Succ is
  have YW:zd w.c.nodes j i:=by
   have:=I.pl.pred hi rfl h1
   rwa [show(aD w.c i).pred=j by rw[←ly,e]]at this
  obtain⟨r1,r2,r3,r4,r5⟩:=YW.role I.pl;obtain⟨x1,x2⟩:=I.nx _ _ YW;have nS:=(I.ah _ _ YW.M6).1.length_le;have Bf:=(I.ah _ _ YW.M6).2;have aeF:(nd w.all j).ar.done≤max (nd w.all j).bo s:=by rcases x2 with x2|⟨_,x2⟩<;>omega
  have V1:max (nd w.all j).bo s≤(g i).length:=by
   cases hk:(nd w.all j).known with
   |true=>have:=(x1 hk).2;omega
   |false=>have:=I.k0 j hj hk;omega
  have hg2:max (nd w.all j).bo s≤(g j).length:=by omega
  have hwl:=N.ar.ld;have hh:(je (nd w.all j).ar (max (nd w.all j).bo s) 0).isSome=true:=by
   unfold je;rw[if_neg (by rw[N.ar.end_];omega)];rfl
  obtain⟨A,q1,q2,q3⟩:=N.abi s d hh;have l7:(aD w.c j).succ∈w.c.nodes:=by rw[r1];exact hi
  rw[if_pos l7]at q3;have Vh:=A.len;rw[ho]at Vh;refine⟨la (nd w.all j) s d,_,.inl ?_,?_,I.op hj (Int.le_refl _) A hl (fun p hp=>(I.ah _ _ hp.M6).1) (fun b hb=>?_) (fun b hb=>?_) (fun q=>by rw[q2]at q;cases q) hs,A.pre⟩
  ·have:=N.aeD I.pl hj om om ho (f:=i) (s:=s) (d:=d) (I.pl.iB hi) ⟨h3,h5⟩ ⟨by rw[r1];exact r5,r1.symm⟩ ⟨aeF,hg2⟩;rw[e,r2];exact this
  ·simp only[List.length_nil,Nat.zero_add]at Vh;omega
  ·obtain rfl:=hb.uniq I.pl.nodup YW;rw[q3];omega
  ·obtain rfl:=hb.uniq I.pl.nodup YW;rw[q1,q2,q3];exact⟨fun _=>by omega,.inr ⟨rfl,om⟩⟩
end
theorem De (m m':Lr):VC E0 88 2 [.ptr 0 0,.ptr 1 0] (Dx m m') (RR (.dF []) 2 (Dx m {m' with key:=m.key})):=by
 refine en L0 Tryz.f88 ?_;exact⟨[],[some 0,some 1],_,_,_,t3,rfl,rfl,rfl⟩
theorem Tv (m m':Lr):VC E0 89 2 [.ptr 0 0,.ptr 1 0] (Dx m m') (RR (.dF []) 2 (Dx m {m' with bA:=m.bA})):=by
 refine en L0 Tryz.f89 ?_;exact⟨[],[some 0,some 1],_,_,_,t3,rfl,rfl,rfl⟩
theorem Iv:IntKind.i64.wrap ↑(BitVec.ofInt IntKind.i64.bits 3|||BitVec.ofInt IntKind.i64.bits 64).toNat=67:=rfl
theorem ze:IntKind.i64.wrap ↑(BitVec.ofInt IntKind.i64.bits 67|||BitVec.ofInt IntKind.i64.bits 256).toNat=323:=rfl
theorem JS:IntKind.i64.wrap ↑(BitVec.ofInt IntKind.i64.bits 323|||BitVec.ofInt IntKind.i64.bits 0).toNat=323:=rfl
theorem Mv:IntKind.i64.wrap ↑(BitVec.ofInt IntKind.i64.bits 323|||BitVec.ofInt IntKind.i64.bits 512).toNat=835:=rfl
theorem Tw:IntKind.i64.wrap ↑(BitVec.ofInt IntKind.i64.bits 835|||BitVec.ofInt IntKind.i64.bits 0).toNat=835:=rfl
@[reducible] def tI (f t ch e n k:Int):Lr:=⟨15,f,t,ch,e,n,0,0,0,0,0,[],[],k⟩
@[reducible] def tW (f t ch e n k v:Int):Lr:=⟨16,f,t,ch,e,n,0,0,v,0,0,[],[],k⟩
@[reducible] def zA (f t ch e n k:Int):Lr:=⟨19,f,t,ch,e,n,0,0,0,0,0,[],[],k⟩
theorem XJ (f t ch e n k:Int):VC E0 38 0 [.agg (aE (tI f t ch e n k))] [] (RR (.agg (aE (tI f t ch e n k))) 0 []):=by
 refine VC.bE L0 (show E0.func 38=some Tryz.f38 by kernel_rfl) (fun _ _=>rfl) rfl rfl [999999] ?_;refine wh ?_
 repeat(first|(refine⟨by first|decide+kernel|(dsimp only;decide+kernel),?_⟩;have bq:=True.intro;clear bq;(conv=>whnf))|(refine⟨_,rfl,?_⟩;have bq:=True.intro;clear bq;(conv=>whnf))|((try(first|rw[UU]|rw[WS]|rw[WT]|rw[WU]|rw[WV]|rw[WW]|rw[WX]|rw[WY]|rw[WZ]|rw[W2]|rw[W4]|rw[W5]|rw[W6]|rw[W7]|rw[W8]));(try rw[A8]);(try rw[A9]);(try rw[Iv]);(try rw[ze]);(try rw[JS]);first|(refine⟨fun h_=>?_,fun h_=>absurd (by first|decide+kernel|rfl |(dsimp only;decide+kernel)) h_⟩;clear h_;(conv=>whnf))|(refine⟨fun h_=>absurd h_ (by first|decide+kernel|(dsimp only;decide+kernel)),fun h_=>?_⟩;clear h_;(conv=>whnf))))
 refine⟨[],[some 0,some 2],_,_,_,_,kI (tI f t ch e n k) (tI f t 0 0 0 0),t3,cw ?_⟩;refine rn ?_;refine⟨[],[some 0,some 2],_,_,_,_,kJ (tI f t ch e n k) (tI f t ch 0 0 0),t3,cw ?_⟩;refine rn ?_;refine⟨[],[some 0,some 2],_,_,_,_,wI (tI f t ch e n k) (tI f t ch e 0 0),t3,cw ?_⟩;refine rn ?_;refine⟨[],[some 0,some 2],_,_,_,_,De (tI f t ch e n k) (tI f t ch e n 0),t3,cw ?_⟩;refine rn ?_;exact⟨[],[],_,_,_,t3,rfl,rfl,rfl⟩
theorem XK (f t ch e n k:Int):VC E0 38 0 [.agg (aE (zA f t ch e n k))] [] (RR (.agg (aE (zA f t ch e n k))) 0 []):=by
 refine VC.bE L0 (show E0.func 38=some Tryz.f38 by kernel_rfl) (fun _ _=>rfl) rfl rfl [999999] ?_;refine wh ?_
 repeat(first|(refine⟨by first|decide+kernel|(dsimp only;decide+kernel),?_⟩;have bq:=True.intro;clear bq;(conv=>whnf))|(refine⟨_,rfl,?_⟩;have bq:=True.intro;clear bq;(conv=>whnf))|((try(first|rw[UU]|rw[WS]|rw[WT]|rw[WU]|rw[WV]|rw[WW]|rw[WX]|rw[WY]|rw[WZ]|rw[W2]|rw[W4]|rw[W5]|rw[W6]|rw[W7]|rw[W8]));(try rw[A8]);(try rw[A9]);(try rw[Iv]);(try rw[ze]);(try rw[JS]);first|(refine⟨fun h_=>?_,fun h_=>absurd (by first|decide+kernel|rfl |(dsimp only;decide+kernel)) h_⟩;clear h_;(conv=>whnf))|(refine⟨fun h_=>absurd h_ (by first|decide+kernel|(dsimp only;decide+kernel)),fun h_=>?_⟩;clear h_;(conv=>whnf))))
 refine⟨[],[some 0,some 2],_,_,_,_,kI (zA f t ch e n k) (zA f t 0 0 0 0),t3,cw ?_⟩;refine rn ?_;refine⟨[],[some 0,some 2],_,_,_,_,kJ (zA f t ch e n k) (zA f t ch 0 0 0),t3,cw ?_⟩;refine rn ?_;refine⟨[],[some 0,some 2],_,_,_,_,wI (zA f t ch e n k) (zA f t ch e 0 0),t3,cw ?_⟩;refine rn ?_;refine⟨[],[some 0,some 2],_,_,_,_,De (zA f t ch e n k) (zA f t ch e n 0),t3,cw ?_⟩;refine rn ?_;exact⟨[],[],_,_,_,t3,rfl,rfl,rfl⟩
theorem XL (f t ch e n k v:Int):VC E0 38 0 [.agg (aE (tW f t ch e n k v))] [] (RR (.agg (aE (tW f t ch e n k v))) 0 []):=by
 refine VC.bE L0 (show E0.func 38=some Tryz.f38 by kernel_rfl) (fun _ _=>rfl) rfl rfl [999999] ?_;refine wh ?_
 repeat(first|(refine⟨by first|decide+kernel|(dsimp only;decide+kernel),?_⟩;have bq:=True.intro;clear bq;(conv=>whnf))|(refine⟨_,rfl,?_⟩;have bq:=True.intro;clear bq;(conv=>whnf))|((try(first|rw[UU]|rw[WS]|rw[WT]|rw[WU]|rw[WV]|rw[WW]|rw[WX]|rw[WY]|rw[WZ]|rw[W2]|rw[W4]|rw[W5]|rw[W6]|rw[W7]|rw[W8]));(try rw[A8]);(try rw[A9]);(try rw[Iv]);(try rw[ze]);(try rw[Mv]);(try rw[Tw]);first|(refine⟨fun h_=>?_,fun h_=>absurd (by first|decide+kernel|rfl |(dsimp only;decide+kernel)) h_⟩;clear h_;(conv=>whnf))|(refine⟨fun h_=>absurd h_ (by first|decide+kernel|(dsimp only;decide+kernel)),fun h_=>?_⟩;clear h_;(conv=>whnf))))
 refine⟨[],[some 0,some 2],_,_,_,_,kI (tW f t ch e n k v) (tW f t 0 0 0 0 0),t3,cw ?_⟩;refine rn ?_;refine⟨[],[some 0,some 2],_,_,_,_,kJ (tW f t ch e n k v) (tW f t ch 0 0 0 0),t3,cw ?_⟩;refine rn ?_;refine⟨[],[some 0,some 2],_,_,_,_,wI (tW f t ch e n k v) (tW f t ch e 0 0 0),t3,cw ?_⟩;refine rn ?_;refine⟨[],[some 0,some 2],_,_,_,_,De (tW f t ch e n k v) (tW f t ch e n 0 0),t3,cw ?_⟩;refine rn ?_;refine⟨[],[some 0,some 2],_,_,_,_,Tv (tW f t ch e n k v) (tW f t ch e n k 0),t3,cw ?_⟩;refine rn ?_;exact⟨[],[],_,_,_,t3,rfl,rfl,rfl⟩
@[reducible] def Qf:List TV:=[.cH 144 [] [],.cH 187 [] [],.cH 188 [] []]
theorem XM:VC E0 149 0 [.s (.int .i64 256)] [] (RR (.agg Qf) 0 []):=by
 refine en L0 Tryz.f149 ?_;refine rn ?_;exact⟨[],[],_,_,_,t3,rfl,rfl,rfl⟩
theorem XN:VC E0 95 0 [.s (.int .i64 256)] [] (RR (.agg Qf) 0 []):=by
 refine en L0 Tryz.f95 ?_;refine rn ?_;refine⟨[],[],_,_,_,_,XM,t3,cw ?_⟩;exact⟨[],[],_,_,_,t3,rfl,rfl,rfl⟩
theorem abn:VC E0 95 0 [.s (.int .i64 512)] [] (RR (.agg (my 144 0)) 1 [(0,ie 148)]):=by
 refine en L0 Tryz.f95 ?_;refine rn ?_;refine⟨[],[],_,_,_,_,Fm 144 148,t3,cw ?_⟩;exact⟨[],[some 1],_,_,_,t3,rfl,rfl,rfl⟩
theorem Ty:VC E0 39 0 [.s (.int .i64 15)] [] (RR (.tk 0) 5 [(0,.bx 3 [z3,z3,z3,Qf] [(2,my 144 4),(1,my 139 3),(0,uN 1 2)]),(1,ie 135),(2,zU 1),(3,ie 140),(4,ie 147)]):=by
 refine VC.bE L0 (show E0.func 39=some Tryz.f39 by kernel_rfl) (fun _ _=>rfl) rfl rfl [999999] ?_;refine wh ?_;refine rn ?_;refine⟨[],[],_,_,_,_,YP,t3,cw ?_⟩;refine rn ?_;refine⟨[],[],_,_,_,_,YQ,t3,cw ?_⟩;refine rn ?_;refine⟨[],[],_,_,_,_,SM,t3,cw ?_⟩;refine rn ?_;refine⟨[],[],_,_,_,_,XN,t3,cw ?_⟩;refine rn ?_;refine⟨[],[some 11,some 0,some 1,some 4,some 7],_,_,_,⟨tq,.cons (.G0 (Lz.of rfl) (.cons tq (.cons tq (.cons tq .nil)))) (.cons tq (.cons tq (.cons tq (.cons tq .nil)))),by rfl⟩,rfl,rfl,rfl⟩
theorem Tz:VC E0 39 0 [.s (.int .i64 19)] [] (RR (.tk 0) 5 [(0,.bx 3 [z3,z3,z3,Qf] [(2,my 144 4),(1,my 139 3),(0,uN 1 2)]),(1,ie 135),(2,zU 1),(3,ie 140),(4,ie 147)]):=by
 refine VC.bE L0 (show E0.func 39=some Tryz.f39 by kernel_rfl) (fun _ _=>rfl) rfl rfl [999999] ?_;refine wh ?_;refine rn ?_;refine⟨[],[],_,_,_,_,YP,t3,cw ?_⟩;refine rn ?_;refine⟨[],[],_,_,_,_,YQ,t3,cw ?_⟩;refine rn ?_;refine⟨[],[],_,_,_,_,SM,t3,cw ?_⟩;refine rn ?_;refine⟨[],[],_,_,_,_,XN,t3,cw ?_⟩;refine rn ?_;refine⟨[],[some 11,some 0,some 1,some 4,some 7],_,_,_,⟨tq,.cons (.G0 (Lz.of rfl) (.cons tq (.cons tq (.cons tq .nil)))) (.cons tq (.cons tq (.cons tq (.cons tq .nil)))),by rfl⟩,rfl,rfl,rfl⟩
theorem TA:VC E0 39 0 [.s (.int .i64 16)] [] (RR (.tk 0) 6 [(0,.bx 3 [z3,z3,z3,Qf,z3] [(4,my 144 5),(2,my 144 4),(1,my 139 3),(0,uN 1 2)]),(1,ie 135),(2,zU 1),(3,ie 140),(4,ie 147),(5,ie 148)]):=by
 refine VC.bE L0 (show E0.func 39=some Tryz.f39 by kernel_rfl) (fun _ _=>rfl) rfl rfl [999999] ?_;refine wh ?_;refine rn ?_;refine⟨[],[],_,_,_,_,YP,t3,cw ?_⟩;refine rn ?_;refine⟨[],[],_,_,_,_,YQ,t3,cw ?_⟩;refine rn ?_;refine⟨[],[],_,_,_,_,SM,t3,cw ?_⟩;refine rn ?_;refine⟨[],[],_,_,_,_,XN,t3,cw ?_⟩;refine rn ?_;refine⟨[],[],_,_,_,_,abn,t3,cw ?_⟩;refine rn ?_;refine⟨[],[some 14,some 0,some 1,some 4,some 7,some 12],_,_,_,⟨tq,.cons (.G0 (Lz.of rfl) (.cons tq (.cons tq (.cons tq (.cons tq .nil))))) (.cons tq (.cons tq (.cons tq (.cons tq (.cons tq .nil))))),by rfl⟩,rfl,rfl,rfl⟩
theorem TB:VC E0 35 0 [.s (.int .i64 15)] [] (RR (.s (.bool true)) 0 []):=by
 refine en L0 Tryz.f35 ?_;refine rn ?_;exact⟨[],[],_,_,_,t3,rfl,rfl,rfl⟩
theorem TC:VC E0 35 0 [.s (.int .i64 16)] [] (RR (.s (.bool true)) 0 []):=by
 refine en L0 Tryz.f35 ?_;refine rn ?_;exact⟨[],[],_,_,_,t3,rfl,rfl,rfl⟩
theorem TD:VC E0 35 0 [.s (.int .i64 19)] [] (RR (.s (.bool true)) 0 []):=by
 refine en L0 Tryz.f35 ?_;refine rn ?_;exact⟨[],[],_,_,_,t3,rfl,rfl,rfl⟩
theorem Df (f t ch e n k:Int) (hf:iB f) (ht:iB t) (K7:0≤ch∧ch<4) (he:1≤e):VC E0 15 0 [.agg (aE (tI f t ch e n k))] [] (RR (.s (.int .i64 0)) 0 []):=by
 refine VC.bE L0 (show E0.func 15=some Tryz.f15 by kernel_rfl) (fun _ _=>rfl) rfl rfl [999999] ?_;refine wh ?_;refine⟨[],[],_,_,_,_,TB,t3,cw ?_⟩;refine⟨[],[],_,_,_,_,hY f hf,t3,cw ?_⟩;refine⟨[],[],_,_,_,_,hY t ht,t3,cw ?_⟩;refine⟨[],[],_,_,_,_,XJ f t ch e n k,t3,cw ?_⟩;refine⟨[],[],_,_,_,_,Ba (tI f t ch e n k) (by show(0:Nat)<1000000;decide),t3,cw ?_⟩;refine⟨[],[],_,_,_,_,Ty,t3,cw ?_⟩;refine rn ?_;refine⟨[],[],_,_,_,_,kK (tI f t ch e n k) K7,t3,cw ?_⟩;refine rn ?_;refine⟨[],[],_,_,_,_,kL (tI f t ch e n k) he,t3,cw ?_⟩;refine rn ?_;refine⟨[],[],_,_,_,_,hZ (tI f t ch e n k),t3,cw ?_⟩
 refine rn ?_;refine⟨[],[],_,_,_,_,hZ (tI f t ch e n k),t3,cw ?_⟩;refine rn ?_;exact⟨[],[],_,_,_,t3,rfl,rfl,rfl⟩
theorem JT (f t ch e n k:Int) (hf:iB f) (ht:iB t) (K7:0≤ch∧ch<4) (he:1≤e):VC E0 15 0 [.agg (aE (zA f t ch e n k))] [] (RR (.s (.int .i64 0)) 0 []):=by
 refine VC.bE L0 (show E0.func 15=some Tryz.f15 by kernel_rfl) (fun _ _=>rfl) rfl rfl [999999] ?_;refine wh ?_;refine⟨[],[],_,_,_,_,TD,t3,cw ?_⟩;refine⟨[],[],_,_,_,_,hY f hf,t3,cw ?_⟩;refine⟨[],[],_,_,_,_,hY t ht,t3,cw ?_⟩;refine⟨[],[],_,_,_,_,XK f t ch e n k,t3,cw ?_⟩;refine⟨[],[],_,_,_,_,Ba (zA f t ch e n k) (by show(0:Nat)<1000000;decide),t3,cw ?_⟩;refine⟨[],[],_,_,_,_,Tz,t3,cw ?_⟩;refine rn ?_;refine⟨[],[],_,_,_,_,kK (zA f t ch e n k) K7,t3,cw ?_⟩;refine rn ?_;refine⟨[],[],_,_,_,_,kL (zA f t ch e n k) he,t3,cw ?_⟩;refine rn ?_;refine⟨[],[],_,_,_,_,hZ (zA f t ch e n k),t3,cw ?_⟩
 refine rn ?_;refine⟨[],[],_,_,_,_,hZ (zA f t ch e n k),t3,cw ?_⟩;refine rn ?_;exact⟨[],[],_,_,_,t3,rfl,rfl,rfl⟩
theorem JU (f t ch e n k v:Int) (hf:iB f) (ht:iB t) (K7:0≤ch∧ch<4) (he:1≤e):VC E0 15 0 [.agg (aE (tW f t ch e n k v))] [] (RR (.s (.int .i64 0)) 0 []):=by
 refine VC.bE L0 (show E0.func 15=some Tryz.f15 by kernel_rfl) (fun _ _=>rfl) rfl rfl [999999] ?_;refine wh ?_;refine⟨[],[],_,_,_,_,TC,t3,cw ?_⟩;refine⟨[],[],_,_,_,_,hY f hf,t3,cw ?_⟩;refine⟨[],[],_,_,_,_,hY t ht,t3,cw ?_⟩;refine⟨[],[],_,_,_,_,XL f t ch e n k v,t3,cw ?_⟩;refine⟨[],[],_,_,_,_,Ba (tW f t ch e n k v) (by show(0:Nat)<1000000;decide),t3,cw ?_⟩;refine⟨[],[],_,_,_,_,TA,t3,cw ?_⟩;refine rn ?_;refine⟨[],[],_,_,_,_,kK (tW f t ch e n k v) K7,t3,cw ?_⟩;refine rn ?_;refine⟨[],[],_,_,_,_,kL (tW f t ch e n k v) he,t3,cw ?_⟩;refine rn ?_;refine⟨[],[],_,_,_,_,hZ (tW f t ch e n k v),t3,cw ?_⟩
 refine rn ?_;refine⟨[],[],_,_,_,_,hZ (tW f t ch e n k v),t3,cw ?_⟩;refine rn ?_;refine⟨[],[],_,_,_,_,hZ (tW f t ch e n k v),t3,cw ?_⟩;refine rn ?_;exact⟨[],[],_,_,_,t3,rfl,rfl,rfl⟩
theorem oq (k:Int) (h:k=15∨k=16∨k=19):VC E0 100 0 [.s (.int .i64 k)] [] (RR (.s (.bool true)) 0 []):=by
 rcases h with rfl |rfl |rfl
 all_goals
  refine en L0 Tryz.f100 ?_;refine rn ?_;exact⟨[],[],_,_,_,t3,rfl,rfl,rfl⟩
theorem XO (c:CF) (H:bp c) (node:Int) (f t ch e n k:Int) (h:(aD c node).tail=true) (hf:f∈c.nodes) (bc:f≠node):VC E0 101 0 [.agg (b9 c),.s (.int .i64 node),.agg (aE (tI f t ch e n k))] [] (RR (.s (.bool true)) 0 []):=by
 have r8:=kC c.nodes f (by have:=H.2.2.1;omega);rw[decide_eq_true hf]at r8;have hr:=fC c H node;generalize aD c node=r at h hr;obtain⟨ri,rj,rh,rt,JN,M5,L9,JO⟩:=r;refine en L0 Tryz.f101 ?_;refine⟨[],[],_,_,_,_,hr,t3,cw ?_⟩;refine rn ?_;have h:rt=true:=h;subst h;refine wh ?_;refine sp ?_ ?_<;>intro hq
 ·refine wh ?_;refine⟨[],[],_,_,_,_,r8,t3,cw ?_⟩;exact⟨[],[],_,_,_,t3,rfl,rfl,rfl⟩
 ·exact absurd bc hq
theorem TE (c:CF) (H:bp c) (node:Int) (t ch e n k:Int) (h:(aD c node).tail=true):VC E0 101 0 [.agg (b9 c),.s (.int .i64 node),.agg (aE (tI node t ch e n k))] [] (RR (.s (.bool false)) 0 []):=by
 have hr:=fC c H node;generalize aD c node=r at h hr;obtain⟨ri,rj,rh,rt,JN,M5,L9,JO⟩:=r;refine en L0 Tryz.f101 ?_;refine⟨[],[],_,_,_,_,hr,t3,cw ?_⟩;refine rn ?_;have h:rt=true:=h;subst h;refine wh ?_;refine sp ?_ ?_<;>intro hq
 ·exact absurd rfl hq
 ·refine wh ?_;exact⟨[],[],_,_,_,t3,rfl,rfl,rfl⟩
theorem XP (c:CF) (H:bp c) (node:Int) (t ch e n k v:Int) (h:(aD c node).m7=true∧(aD c node).tail=false):VC E0 101 0 [.agg (b9 c),.s (.int .i64 node),.agg (aE (tW (dO c) t ch e n k v))] [] (RR (.s (.bool true)) 0 []):=by
 have YX:=y6 c H;have hr:=fC c H node;generalize aD c node=r at h hr;obtain⟨ri,rj,rh,rt,JN,M5,L9,JO⟩:=r;refine en L0 Tryz.f101 ?_;refine⟨[],[],_,_,_,_,hr,t3,cw ?_⟩;refine rn ?_;obtain⟨h1,h2⟩:=h;have h1:ri=true:=h1;have h2:rt=false:=h2;subst h1;subst h2;refine wh ?_;refine⟨[],[],_,_,_,_,YX,t3,cw ?_⟩
 repeat((first|(refine⟨fun h_=>?_,fun h_=>?_⟩)|(refine aA (fun h_=>?_) (fun h_=>?_))|(refine az (fun h_=>?_) (fun h_=>?_)))<;>first|(exfalso;revert h_;decide;done)|(exfalso;revert h_;simp;done)|(have bq:=True.intro;clear bq;((conv=>whnf)<;>repeat(with_reducible refine D1 ?_)<;>conv=>whnf)))
 exact⟨[],[],_,_,_,t3,rfl,rfl,rfl⟩
theorem XQ (c:CF) (H:bp c) (node:Int) (f t ch e n k:Int) (h:(aD c node).m7=true) (hf:201≤f∧f≤206):VC E0 101 0 [.agg (b9 c),.s (.int .i64 node),.agg (aE (zA f t ch e n k))] [] (RR (.s (.bool true)) 0 []):=by
 have hc:=uO f;rw[decide_eq_true hf]at hc;have hr:=fC c H node;generalize aD c node=r at h hr;obtain⟨ri,rj,rh,rt,JN,M5,L9,JO⟩:=r;refine en L0 Tryz.f101 ?_;refine⟨[],[],_,_,_,_,hr,t3,cw ?_⟩;refine rn ?_;have h:ri=true:=h;subst h;refine wh ?_;refine⟨[],[],_,_,_,_,hc,t3,cw ?_⟩;exact⟨[],[],_,_,_,t3,rfl,rfl,rfl⟩
theorem TF (c:CF) (H:bp c) (node f n k:Int) (hn:iB node) (TG:iB f) (h:(aD c node).tail=true) (hf:f∈c.nodes) (bc:f≠node):
 VC E0 42 0 [.agg (b9 c),.s (.int .i64 node),.agg (aE (tI f node c.chain c.aJ n k))] [] (RR (.s (.int .i64 0)) 0 []):=by
 have kr:=Df f node c.chain c.aJ n k TG hn H.1 H.2.1;have hs:=XO c H node f node c.chain c.aJ n k h hf bc;refine en L0 Tryz.f42 ?_;refine⟨[],[],_,_,_,_,kr,t3,cw ?_⟩
 repeat((first|(refine⟨fun h_=>?_,fun h_=>?_⟩)|(refine aA (fun h_=>?_) (fun h_=>?_))|(refine az (fun h_=>?_) (fun h_=>?_)))<;>first|(exfalso;revert h_;decide;done)|(exact absurd rfl h_)|(have bq:=True.intro;clear bq;(conv=>whnf)))
 refine⟨[],[],_,_,_,_,lh c H,t3,cw ?_⟩;refine⟨[],[],_,_,_,_,oq 15 (.inl rfl),t3,cw ?_⟩
 repeat((first|(refine⟨fun h_=>?_,fun h_=>?_⟩)|(refine aA (fun h_=>?_) (fun h_=>?_))|(refine az (fun h_=>?_) (fun h_=>?_)))<;>first|(exfalso;revert h_;decide;done)|(exact absurd rfl h_)|(have bq:=True.intro;clear bq;(conv=>whnf)))
 refine⟨[],[],_,_,_,_,hs,t3,cw ?_⟩;exact⟨[],[],_,_,_,t3,rfl,rfl,rfl⟩
theorem Qg (c:CF) (H:bp c) (node n k:Int) (hn:iB node) (h:(aD c node).tail=true):
 VC E0 42 0 [.agg (b9 c),.s (.int .i64 node),.agg (aE (tI node node c.chain c.aJ n k))] [] (RR (.s (.int .i64 12)) 0 []):=by
 have kr:=Df node node c.chain c.aJ n k hn hn H.1 H.2.1;have hs:=TE c H node node c.chain c.aJ n k h;refine en L0 Tryz.f42 ?_;refine⟨[],[],_,_,_,_,kr,t3,cw ?_⟩
 repeat((first|(refine⟨fun h_=>?_,fun h_=>?_⟩)|(refine aA (fun h_=>?_) (fun h_=>?_))|(refine az (fun h_=>?_) (fun h_=>?_)))<;>first|(exfalso;revert h_;decide;done)|(exact absurd rfl h_)|(have bq:=True.intro;clear bq;(conv=>whnf)))
 refine⟨[],[],_,_,_,_,lh c H,t3,cw ?_⟩;refine⟨[],[],_,_,_,_,oq 15 (.inl rfl),t3,cw ?_⟩
 repeat((first|(refine⟨fun h_=>?_,fun h_=>?_⟩)|(refine aA (fun h_=>?_) (fun h_=>?_))|(refine az (fun h_=>?_) (fun h_=>?_)))<;>first|(exfalso;revert h_;decide;done)|(exact absurd rfl h_)|(have bq:=True.intro;clear bq;(conv=>whnf)))
 refine⟨[],[],_,_,_,_,hs,t3,cw ?_⟩;exact⟨[],[],_,_,_,t3,rfl,rfl,rfl⟩
theorem TH (c:CF) (H:bp c) (node n k v:Int) (hn:iB node) (TG:iB (dO c)) (h:(aD c node).m7=true∧(aD c node).tail=false):
 VC E0 42 0 [.agg (b9 c),.s (.int .i64 node),.agg (aE (tW (dO c) node c.chain c.aJ n k v))] [] (RR (.s (.int .i64 0)) 0 []):=by
 have kr:=JU (dO c) node c.chain c.aJ n k v TG hn H.1 H.2.1;have hs:=XP c H node node c.chain c.aJ n k v h;refine en L0 Tryz.f42 ?_;refine⟨[],[],_,_,_,_,kr,t3,cw ?_⟩
 repeat((first|(refine⟨fun h_=>?_,fun h_=>?_⟩)|(refine aA (fun h_=>?_) (fun h_=>?_))|(refine az (fun h_=>?_) (fun h_=>?_)))<;>first|(exfalso;revert h_;decide;done)|(exact absurd rfl h_)|(have bq:=True.intro;clear bq;(conv=>whnf)))
 refine⟨[],[],_,_,_,_,lh c H,t3,cw ?_⟩;refine⟨[],[],_,_,_,_,oq 16 (.inr (.inl rfl)),t3,cw ?_⟩
 repeat((first|(refine⟨fun h_=>?_,fun h_=>?_⟩)|(refine aA (fun h_=>?_) (fun h_=>?_))|(refine az (fun h_=>?_) (fun h_=>?_)))<;>first|(exfalso;revert h_;decide;done)|(exact absurd rfl h_)|(have bq:=True.intro;clear bq;(conv=>whnf)))
 refine⟨[],[],_,_,_,_,hs,t3,cw ?_⟩;exact⟨[],[],_,_,_,t3,rfl,rfl,rfl⟩
theorem TI (c:CF) (H:bp c) (node f n k:Int) (hn:iB node) (hf:201≤f∧f≤206) (h:(aD c node).m7=true):
 VC E0 42 0 [.agg (b9 c),.s (.int .i64 node),.agg (aE (zA f node c.chain c.aJ n k))] [] (RR (.s (.int .i64 0)) 0 []):=by
 have kr:=JT f node c.chain c.aJ n k (.inr hf) hn H.1 H.2.1;have hs:=XQ c H node f node c.chain c.aJ n k h hf;refine en L0 Tryz.f42 ?_;refine⟨[],[],_,_,_,_,kr,t3,cw ?_⟩
 repeat((first|(refine⟨fun h_=>?_,fun h_=>?_⟩)|(refine aA (fun h_=>?_) (fun h_=>?_))|(refine az (fun h_=>?_) (fun h_=>?_)))<;>first|(exfalso;revert h_;decide;done)|(exact absurd rfl h_)|(have bq:=True.intro;clear bq;(conv=>whnf)))
 refine⟨[],[],_,_,_,_,lh c H,t3,cw ?_⟩;refine⟨[],[],_,_,_,_,oq 19 (.inr (.inr rfl)),t3,cw ?_⟩
 repeat((first|(refine⟨fun h_=>?_,fun h_=>?_⟩)|(refine aA (fun h_=>?_) (fun h_=>?_))|(refine az (fun h_=>?_) (fun h_=>?_)))<;>first|(exfalso;revert h_;decide;done)|(exact absurd rfl h_)|(have bq:=True.intro;clear bq;(conv=>whnf)))
 refine⟨[],[],_,_,_,_,hs,t3,cw ?_⟩;exact⟨[],[],_,_,_,t3,rfl,rfl,rfl⟩
@[reducible] def Bw (q:Vs×Bool):TV:=.dF [.agg (gH q.1),.s (.bool q.2)]
@[reducible] def Iw (s:dp) (k d:Int):Vs×Bool:=if 0<(cE s k).length∧d<(ba (cE s k)).seq then(cu,false)else(ba (cE s k),true)
theorem XR (s:dp) (k d:Int) (H:oK s):VC E0 49 2 [.ptr 0 0,.s (.int .u32 k),.s (.int .u64 d)] (pJ s) (RR (Bw (Iw s k d)) 2 (pJ s)):=by
 have hd:=PA s k d H;have hl:=C8 s k H;by_cases h:0<(cE s k).length∧d<(ba (cE s k)).seq
 ·rw[decide_eq_true h]at hd;rw[show Iw s k d=(cu,false)from if_pos h];refine en L0 Tryz.f49 ?_;refine⟨[],[some 0,some 1],_,_,_,_,hd,t3,cw ?_⟩;exact⟨[],[some 0,some 1],_,_,_,t3,rfl,rfl,rfl⟩
 ·rw[decide_eq_false h]at hd;rw[show Iw s k d=(ba (cE s k),true)from if_neg h];refine en L0 Tryz.f49 ?_;refine⟨[],[some 0,some 1],_,_,_,_,hd,t3,cw ?_⟩;refine⟨[],[some 0,some 1],_,_,_,_,hl,t3,cw ?_⟩;exact⟨[],[some 0,some 1],_,_,_,t3,rfl,rfl,rfl⟩
@[reducible] def thenS (s:dp) (k v d:Int):Vs×Bool:=(kj (cE s k) v d,decide (v=0∨(kj (cE s k) v d).bA≠0))
theorem then_ok (s:dp) (k v d:Int) (H:oK s):VC E0 55 2 [.ptr 0 0,.s (.int .u32 k),.s (.int .u64 v),.s (.int .u64 d)] (pJ s) (RR (Bw (thenS s k v d)) 2 (pJ s)):=by
 have hp:=Ta s k v d H;show VC E0 _ _ _ _ (RR (.dF [.agg (gH (kj (cE s k) v d)),.s (.bool (decide (v=0∨(kj (cE s k) v d).bA≠0)))]) _ _);generalize kj (cE s k) v d=p at hp;refine en L0 Tryz.f55 ?_;refine⟨[],[some 0,some 1],_,_,_,_,hp,t3,cw ?_⟩;refine sp ?_ ?_<;>intro h0
 ·refine wh ?_;refine⟨[],[some 0,some 1],_,_,_,tx ?_,rfl,rfl,rfl⟩
  exact Lz.of (aK (by have h0:v=0:=h0
                      simp[h0]))
 ·refine wh ?_;refine sp ?_ ?_<;>intro h1
  ·refine wh ?_;refine⟨[],[some 0,some 1],_,_,_,tx ?_,rfl,rfl,rfl⟩
   exact Lz.of (aK (by have h1:p.bA≠0:=h1
                       simp[h1]))
  ·refine wh ?_;refine⟨[],[some 0,some 1],_,_,_,tx ?_,rfl,rfl,rfl⟩
   exact Lz.of (aK (by have h0:¬v=0:=h0
                       have h1:p.bA=0:=Decidable.not_not.1 h1;simp[h0,h1]))
theorem TJ (s:dp) (k d:Int) (H:oK s):VC E0 49 1 [.ptr 0 0,.s (.int .u32 k),.s (.int .u64 d)] (Ij s) (RR (Bw (Iw s k d)) 1 (Ij s)):=by
 have np:=XR s k d H;refine VC.told (R:=RR (Bw (Iw s k d)) 5 (pJ s)) (VC.tc (m0:=0) rfl ?_) ?_
 ·show ow false (VC E0) _ _ [(1,v7 s.bs),(2,yW s.t),(0,.cells [.s (.int .u64 s.e),.mp 1,.ptr 2 0])] 3 _;refine⟨[],[some 0,some 1],_,_,_,_,np,t3,?_⟩;rintro r o' c' ⟨rfl,rfl,rfl⟩;exact⟨rfl,rfl,rfl⟩
 ·rintro r o' c' ⟨rfl,rfl,rfl⟩;exact⟨[],[some 0],_,_,_,t3,rfl,rfl,rfl⟩
theorem Qh (s:dp) (k v d:Int) (H:oK s):VC E0 55 1 [.ptr 0 0,.s (.int .u32 k),.s (.int .u64 v),.s (.int .u64 d)] (Ij s) (RR (Bw (thenS s k v d)) 1 (Ij s)):=by
 have np:=then_ok s k v d H;refine VC.told (R:=RR (Bw (thenS s k v d)) 5 (pJ s)) (VC.tc (m0:=0) rfl ?_) ?_
 ·show ow false (VC E0) _ _ [(1,v7 s.bs),(2,yW s.t),(0,.cells [.s (.int .u64 s.e),.mp 1,.ptr 2 0])] 3 _;refine⟨[],[some 0,some 1],_,_,_,_,np,t3,?_⟩;rintro r o' c' ⟨rfl,rfl,rfl⟩;exact⟨rfl,rfl,rfl⟩
 ·rintro r o' c' ⟨rfl,rfl,rfl⟩;exact⟨[],[some 0],_,_,_,t3,rfl,rfl,rfl⟩
theorem tJ (s:dp) (k:Int) (H:oK s):VC E0 31 1 [.ptr 0 0,.s (.int .u32 k)] (Ij s) (RR (.agg (gH (ba (cE s k)))) 1 (Ij s)):=by
 have np:=C8 s k H;refine VC.told (R:=RR (.agg (gH (ba (cE s k)))) 5 (pJ s)) (VC.tc (m0:=0) rfl ?_) ?_
 ·show ow false (VC E0) _ _ [(1,v7 s.bs),(2,yW s.t),(0,.cells [.s (.int .u64 s.e),.mp 1,.ptr 2 0])] 3 _;refine⟨[],[some 0,some 1],_,_,_,_,np,t3,?_⟩;rintro r o' c' ⟨rfl,rfl,rfl⟩;exact⟨rfl,rfl,rfl⟩
 ·rintro r o' c' ⟨rfl,rfl,rfl⟩;exact⟨[],[some 0],_,_,_,t3,rfl,rfl,rfl⟩
structure Rd where
 (token aj num key:Int)
 deriving DecidableEq
@[reducible] def dq (r:Rd):List TV:=[.s (.int .u64 r.token),.s (.int .i64 r.aj),.s (.int .u64 r.num),.s (.int .u32 r.key)]
@[reducible] def fZ:Rd:=⟨0,0,0,0⟩
@[reducible] def Qi (n:Int) (k:IntKind) (l:List Rd):Ob:=[(0,.arr 4 true (l.map dq)),(1,.cells [.s (.int k n)])]
def tK (n:Int) (r:Rd):Bool:=decide (r.aj=n)
def dT (n:Int) (r:Rd):Bool:=decide (r.token=n)
theorem Vi (n:Int) (r:Rd):VC E0 116 1 [.agg (dq r),.ptr 0 0] [(0,.cells [.s (.int .i64 n)])] (RR (.s (.bool (tK n r))) 1 [(0,.cells [.s (.int .i64 n)])]):=by
 refine en L0 Tryz.f116 ?_;refine sp ?_ ?_<;>intro h
 ·have h:r.aj=n:=h;refine wh ?_;refine⟨[],[some 0],_,_,_,tx ?_,rfl,rfl,rfl⟩;exact Lz.of (aK (Eq.symm (decide_eq_true h)))
 ·have h:¬r.aj=n:=h;refine wh ?_;refine⟨[],[some 0],_,_,_,tx ?_,rfl,rfl,rfl⟩;exact Lz.of (aK (Eq.symm (decide_eq_false h)))
theorem XS (n:Int) (r:Rd):VC E0 119 1 [.agg (dq r),.ptr 0 0] [(0,.cells [.s (.int .u64 n)])] (RR (.s (.bool (dT n r))) 1 [(0,.cells [.s (.int .u64 n)])]):=by
 refine en L0 Tryz.f119 ?_;refine sp ?_ ?_<;>intro h
 ·have h:r.token=n:=h;refine wh ?_;refine⟨[],[some 0],_,_,_,tx ?_,rfl,rfl,rfl⟩;exact Lz.of (aK (Eq.symm (decide_eq_true h)))
 ·have h:¬r.token=n:=h;refine wh ?_;refine⟨[],[some 0],_,_,_,tx ?_,rfl,rfl,rfl⟩;exact Lz.of (aK (Eq.symm (decide_eq_false h)))
def Qj (p:Rd→Bool) (l:List Rd) (i:Int):Prop:=(i= -1∧∀v∈l,p v=false)∨∃j:Nat,∃h:j<l.length,i=j∧(∀v∈l.take j,p v=false)∧p l[j]=true
theorem TK (n:Int) (l:List Rd) (hl:l.length<1000000):VC E0 118 2 [.tk 0,.cH 116 [] [.ptr 1 0]] (Qi n .i64 l)
 (fun r o c=>∃i:Int,r= .s (.int .i64 i)∧c=2∧o=Qi n .i64 l∧Qj (tK n) l i):=by
 refine en L0 Tryz.f118 ?_;refine⟨fun k f o c=>∃j:Nat,j≤l.length∧k=l.length - j∧(∀v∈l.take j,tK n v=false)∧c=2∧f=[(0,.tk 0),(1,.cH 116 [] [.ptr 1 0]),(7,.s (.int .i64 l.length)),(8,.s (.int .i64 j))]∧o=Qi n .i64 l,⟨l.length,?_⟩,?_⟩
 ·refine⟨[],[some 0,some 1],?_⟩
  iterate 3 constructor
  refine⟨⟨?_,?_,?_⟩,⟨0,Nat.zero_le _,rfl,by simp,rfl,rfl,rfl⟩⟩
  all_goals(repeat' first|exact LF|constructor)
  all_goals exact Lz.of (by simp[goInt])
 ·rintro k f1 o1 c1 ⟨j,hj,rfl,hb,rfl,rfl,rfl⟩;refine wh ?_;refine sp ?_ ?_<;>intro h
  ·have h:j<l.length:=by simpa using h
   refine wh ?_;refine⟨⟨om,by simp;omega⟩,dq l[j],by simp[h],?_⟩;refine wh ?_;refine⟨[],[some 1],_,_,_,_,Vi n l[j],t3,?_⟩;rintro r o' c' ⟨rfl,rfl,rfl⟩;have bq:=True.intro;clear bq;cases hv:tK n l[j]
   ·refine wh ?_;refine⟨l.length - (j+1),?_,om⟩;exact⟨[],[some 0,some 1],_,_,_,t3,⟨j+1,h,rfl,by intro v uX;rw[List.take_succ_eq_append_getElem h]at uX;rcases List.mem_append.1 uX with h1|h1;exact hb v h1;simp at h1;subst h1;exact hv,rfl,rfl,rfl⟩⟩
   ·refine wh ?_;exact⟨[],[some 0,some 1],_,_,_,t3,(j:Int),rfl,rfl,rfl,.inr ⟨j,h,rfl,hb,hv⟩⟩
  ·have h':j=l.length:=by have:¬j<l.length:=by simpa using h
                          omega
   subst h';rw[List.take_length]at hb;refine wh ?_;exact⟨[],[some 0,some 1],_,_,_,t3,-1,rfl,rfl,rfl,.inl ⟨rfl,hb⟩⟩
theorem TL (n:Int) (l:List Rd) (hl:l.length<1000000):VC E0 118 2 [.tk 0,.cH 119 [] [.ptr 1 0]] (Qi n .u64 l)
 (fun r o c=>∃i:Int,r= .s (.int .i64 i)∧c=2∧o=Qi n .u64 l∧Qj (dT n) l i):=by
 refine en L0 Tryz.f118 ?_;refine⟨fun k f o c=>∃j:Nat,j≤l.length∧k=l.length - j∧(∀v∈l.take j,dT n v=false)∧c=2∧f=[(0,.tk 0),(1,.cH 119 [] [.ptr 1 0]),(7,.s (.int .i64 l.length)),(8,.s (.int .i64 j))]∧o=Qi n .u64 l,⟨l.length,?_⟩,?_⟩
 ·refine⟨[],[some 0,some 1],?_⟩
  iterate 3 constructor
  refine⟨⟨?_,?_,?_⟩,⟨0,Nat.zero_le _,rfl,by simp,rfl,rfl,rfl⟩⟩
  all_goals(repeat' first|exact LF|constructor)
  all_goals exact Lz.of (by simp[goInt])
 ·rintro k f1 o1 c1 ⟨j,hj,rfl,hb,rfl,rfl,rfl⟩;refine wh ?_;refine sp ?_ ?_<;>intro h
  ·have h:j<l.length:=by simpa using h
   refine wh ?_;refine⟨⟨om,by simp;omega⟩,dq l[j],by simp[h],?_⟩;refine wh ?_;refine⟨[],[some 1],_,_,_,_,XS n l[j],t3,?_⟩;rintro r o' c' ⟨rfl,rfl,rfl⟩;have bq:=True.intro;clear bq;cases hv:dT n l[j]
   ·refine wh ?_;refine⟨l.length - (j+1),?_,om⟩;exact⟨[],[some 0,some 1],_,_,_,t3,⟨j+1,h,rfl,by intro v uX;rw[List.take_succ_eq_append_getElem h]at uX;rcases List.mem_append.1 uX with h1|h1;exact hb v h1;simp at h1;subst h1;exact hv,rfl,rfl,rfl⟩⟩
   ·refine wh ?_;exact⟨[],[some 0,some 1],_,_,_,t3,(j:Int),rfl,rfl,rfl,.inr ⟨j,h,rfl,hb,hv⟩⟩
  ·have h':j=l.length:=by have:¬j<l.length:=by simpa using h
                          omega
   subst h';rw[List.take_length]at hb;refine wh ?_;exact⟨[],[some 0,some 1],_,_,_,t3,-1,rfl,rfl,rfl,.inl ⟨rfl,hb⟩⟩
def others (n:Int) (l:List Rd):List Rd:=l.filter fun r=> !tK n r
theorem zg {n:Int} {l:List Rd} (h:∀v∈l,tK n v=false):others n l=l:=by
 unfold others;rw[List.filter_eq_self];intro v hv;rw[h v hv];rfl
theorem vL (n:Int) (l:List Rd) (j:Nat) (h:j<l.length):others n (l.take (j+1))=others n (l.take j)++if tK n l[j]=true then []else [l[j]]:=by
 unfold others;rw[List.take_succ_eq_append_getElem h,List.filter_append]
 congr 1
 by_cases hb:tK n l[j]=true<;>simp[hb]
theorem zh {n:Int} {l:List Rd} {j:Nat} (h:j<l.length) (hb:tK n l[j]=true):others n (l.take (j+1))=others n (l.take j):=by
 rw[vL n l j h,if_pos hb,List.append_nil]
theorem FL {n:Int} {l:List Rd} {j:Nat} (h:j<l.length) (hb:tK n l[j]=false):others n (l.take (j+1))=others n (l.take j)++[l[j]]:=by
 rw[vL n l j h,if_neg (by rw[hb];decide)]
def abo (l:List Rd) (n:Int):TV→Ob→Nat→Prop:=fun r o c=>c=2∧((r= .tk 0∧o=Qi n .i64 l∧others n l=l)∨∃(i:Nat) (ws:List Rd),r= .pv 0 i∧o=Qi n .i64 ws∧ws.take i=others n l∧i≤ws.length)
theorem JV (n:Int) (l:List Rd) (hl:l.length<1000000):VC E0 166 2 [.tk 0,.cH 116 [] [.ptr 1 0]] (Qi n .i64 l) (abo l n):=by
 refine en L0 Tryz.f166 ?_;refine⟨[],[some 0,some 1],_,_,_,_,TK n l hl,t3,?_⟩;rintro r o' c' ⟨i0,rfl,rfl,rfl,Jb⟩;refine wh ?_;refine sp ?_ ?_<;>intro hm
 ·have hm:i0= -1:=hm;rcases Jb with⟨_,iY⟩|⟨j,h,e,_,_⟩
  ·refine wh ?_;exact⟨[],[some 0,some 1],_,_,_,t3,rfl,.inl ⟨rfl,rfl,zg iY⟩⟩
  ·omega
 ·have hm:¬i0= -1:=hm;rcases Jb with⟨e,_⟩|⟨j0,h0,rfl,wU,UJ⟩
  ·exact absurd e hm
  refine wh ?_;refine⟨fun k f o c=>∃(i j:Nat) (ws:List Rd),i<j∧j≤l.length∧k=l.length - j∧ws.length=l.length∧ws.take i=others n (l.take j)∧ws.drop j=l.drop j∧c=2∧f=[(0,.tk 0),(1,.cH 116 [] [.ptr 1 0]),(5,.s (.int .i64 i)),(6,.s (.int .i64 j))]∧o=Qi n .i64 ws,⟨l.length - (j0+1),?_⟩,?_⟩
  ·exact⟨[],[some 0,some 1],_,_,_,t3,⟨j0,j0+1,l,om,h0,rfl,rfl,(by rw[zh h0 UJ];exact(zg wU).symm),rfl,rfl,rfl,rfl⟩⟩
  ·rintro k f1 o1 c1 ⟨i,j,ws,Dq,hj,rfl,hlen,AA,hdr,rfl,rfl,rfl⟩;refine wh ?_;refine sp ?_ ?_<;>intro h
   ·have h:j<l.length:=by rw[List.length_map,hlen]at h;omega
    have hw:ws[j]? =some l[j]:=by
     have:=congrArg (fun q=>q[0]?) hdr;simpa[h]using this
    have abp:ws.drop (j+1)=l.drop (j+1):=by
     have:=congrArg (List.drop 1) hdr;simpa[List.drop_drop,Nat.add_comm]using this
    refine wh ?_;refine⟨⟨om,by simp;omega⟩,dq l[j],by simp[hw],?_⟩;refine wh ?_;refine⟨[],[some 1],_,_,_,_,Vi n l[j],t3,?_⟩;rintro r o' c' ⟨rfl,rfl,rfl⟩;have bq:=True.intro;clear bq;cases hv:tK n l[j]
    ·refine wh ?_;refine⟨⟨om,by simp;omega⟩,dq (ws[i]' om),by simp[show i<ws.length by omega],?_⟩;refine wh ?_;refine⟨l.length - (j+1),?_,om⟩;refine⟨[],[some 0,some 1],?_⟩
     iterate 3 constructor
     refine⟨⟨?_,?_,?_⟩,⟨i+1,j+1,ws.set i l[j],om,h,rfl,by simpa using hlen,(by rw[FL h hv,List.take_succ_eq_append_getElem (by simp;omega),List.take_set_of_le (Nat.le_refl _),AA];simp),(by rw[List.drop_set_of_lt om];exact abp),rfl,rfl,rfl⟩⟩
     all_goals(repeat' first|exact LF|constructor)
     refine Lz.of ?_;rw[List.map_set];rfl
    ·refine wh ?_;refine⟨l.length - (j+1),?_,om⟩;exact⟨[],[some 0,some 1],_,_,_,t3,⟨i,j+1,ws,om,h,rfl,hlen,(by rw[zh h hv];exact AA),abp,rfl,rfl,rfl⟩⟩
   ·have h':j=l.length:=by have:¬(j:Int)<(((ws.map dq).length:Nat):Int):=h
                           rw[List.length_map,hlen]at this;omega
    subst h';rw[List.take_length]at AA;refine wh ?_;refine⟨⟨om,by simp;try omega,by simp⟩,.inr ?_⟩;refine wh ?_;refine⟨fun hc=>absurd hc (by simp;omega),fun _=>?_⟩;refine wh ?_;refine⟨⟨om,by simp;try omega,by simp;try omega⟩,.inr ?_⟩;refine wh ?_;refine⟨[],[some 0,some 1],?_⟩
    iterate 3 constructor
    refine⟨⟨?_,?_,?_⟩,rfl,.inr ⟨i,ws.take i++List.replicate (ws.length - i) fZ,rfl,rfl,(by rw[List.take_left' (by simp;omega)];exact AA),by simp;omega⟩⟩
    all_goals(repeat' first|exact LF|constructor)
    all_goals first
     |exact Lz.of (Int.toNat_natCast i)
     |(refine Lz.of ?_;rw[Int.toNat_natCast,List.map_append,List.map_take,List.length_map,List.map_replicate];rfl)
theorem Bx (l:List Rd) (hl:l.length<1000000):VC E0 128 1 [.tk 0] [(0,.arr 4 true (l.map dq))] (fun r o c=>(l=[]∧r= .sl 0 [] true∧c=1∧o=[(0,.arr 4 true (l.map dq))])∨(r= .tk 1∧c=2∧o=[(0,.arr 4 true (l.map dq)),(1,.arr 4 true (l.map dq))])):=by
 refine en L0 Tryz.f128 ?_;refine⟨fun h0=>?_,?_⟩
 ·have h0:l=[]:=List.map_eq_nil_iff.1 h0;refine wh ?_;exact⟨[],[some 0],_,_,_,t3,.inl ⟨h0,rfl,rfl,rfl⟩⟩
 ·refine wh ?_;refine⟨by simp;omega,?_⟩;refine wh ?_;exact⟨[],[some 0,some 2],_,_,_,t3,.inr ⟨rfl,rfl,rfl⟩⟩
theorem FM (n:Int) (l:List Rd) (hl:l.length<1000000):VC E0 115 2 [.tk 0,.cH 116 [] [.ptr 1 0]] (Qi n .i64 l)
 (fun r o c=>c=3∧∃ws:List Rd,o=[(0,.arr 4 true (l.map dq)),(1,.cells [.s (.int .i64 n)]),(2,.arr 4 true (ws.map dq))]∧((r= .tk 2∧ws=others n l)∨∃i:Nat,r= .pv 2 i∧ws.take i=others n l∧i≤ws.length)):=by
 refine en L0 Tryz.f115 ?_;refine⟨[],[some 0],_,_,_,_,Bx l hl,t3,?_⟩;rintro r o' c' (⟨h0,rfl,rfl,rfl⟩|⟨rfl,rfl,rfl⟩)
 ·subst h0;refine wh ?_;refine⟨[],[none,some 1],_,_,_,_,JV n [] (by decide),t3,?_⟩;rintro r o' c' ⟨rfl,⟨rfl,rfl,h1⟩|⟨i,ws,rfl,rfl,h1,h2⟩⟩
  ·refine wh ?_;exact⟨[],[some 0,some 1,some 3],_,_,_,t3,rfl,[],rfl,.inl ⟨rfl,h1.symm⟩⟩
  ·refine wh ?_;exact⟨[],[some 0,some 1,some 3],_,_,_,t3,rfl,ws,rfl,.inr ⟨i,rfl,h1,h2⟩⟩
 ·refine wh ?_;refine⟨[],[some 3,some 1],_,_,_,_,JV n l hl,t3,?_⟩;rintro r o' c' ⟨rfl,⟨rfl,rfl,h1⟩|⟨i,ws,rfl,rfl,h1,h2⟩⟩
  ·refine wh ?_;exact⟨[],[some 0,some 1,some 3],_,_,_,t3,rfl,l,rfl,.inl ⟨rfl,h1.symm⟩⟩
  ·refine wh ?_;exact⟨[],[some 0,some 1,some 3],_,_,_,t3,rfl,ws,rfl,.inr ⟨i,rfl,h1,h2⟩⟩
structure wa where
 (last:Int) (l:List Rd)
@[reducible] def XT (s:wa):TO:=.cells [.s (.int .u64 s.last),.own (.arr 4 true (s.l.map dq))]
@[reducible] def Ix (s:wa):Ob:=[(0,XT s)]
def zi (c n k:Int) (r:Rd):Bool:=decide (r.aj=c∧r.num=n∧r.key=k)
def qB (s:wa) (c n k:Int):wa×Rd×Int:=
 if(c<1∨6<c)∨n=0 then(s,fZ,1)
 else match s.l.find? (zi c n k)with
 |some r=>(s,r,0)
 |none=>if 16≤(others c s.l).length then(s,fZ,9)else(⟨IntKind.u64.wrap (s.last+1),others c s.l++[⟨IntKind.u64.wrap (s.last+1),c,n,k⟩]⟩,⟨IntKind.u64.wrap (s.last+1),c,n,k⟩,0)
theorem zj {s:wa} {c n k:Int} (h:(c<1∨6<c)∨n=0):qB s c n k=(s,fZ,1):=if_pos h
theorem FN {s:wa} {c n k:Int} (h:¬((c<1∨6<c)∨n=0)) {r:Rd} (hf:s.l.find? (zi c n k)=some r):qB s c n k=(s,r,0):=by
 unfold qB;rw[if_neg h,hf]
theorem By {s:wa} {c n k:Int} (h:¬((c<1∨6<c)∨n=0)) (hf:s.l.find? (zi c n k)=none) (h2:16≤(others c s.l).length):qB s c n k=(s,fZ,9):=by
 unfold qB;rw[if_neg h,hf];exact if_pos h2
theorem zk {s:wa} {c n k:Int} (h:¬((c<1∨6<c)∨n=0)) (hf:s.l.find? (zi c n k)=none) (h2:¬16≤(others c s.l).length):qB s c n k=(⟨IntKind.u64.wrap (s.last+1),others c s.l++[⟨IntKind.u64.wrap (s.last+1),c,n,k⟩]⟩,⟨IntKind.u64.wrap (s.last+1),c,n,k⟩,0):=by
 unfold qB;rw[if_neg h,hf];exact if_neg h2
@[reducible] def aeG (p:wa×Rd×Int):TV:=.dF [.agg (dq p.2.1),.s (.int .i64 p.2.2)]
theorem FO {p:Rd→Bool} {l:List Rd} {i:Nat} (h:i<l.length) (h0:∀v∈l.take i,p v=false) (h1:p l[i]=true):l.find? p=some l[i]:=by
 induction l generalizing i with
 |nil=>simp at h
 |cons a l ih=>
  cases i with
  |zero=>exact List.find?_cons_of_pos h1
  |succ i=>
   rw[List.find?_cons_of_neg (by rw[h0 a (by simp)];decide),ih (by simpa using h) (fun v m=>h0 v (by simp[m])) (by simpa using h1)];rfl
theorem JW {p:Rd→Bool} {l:List Rd} (h0:∀v∈l,p v=false):l.find? p=none:=by
 rw[List.find?_eq_none];intro v m;rw[h0 v m];decide
theorem TM (s:wa) (c n k:Int) (hl:s.l.length<1000):VC E0 52 1 [.ptr 0 0,.s (.int .i64 c),.s (.int .u64 n),.s (.int .u32 k)] (Ix s) (RR (aeG (qB s c n k)) 1 (Ix (qB s c n k).1)):=by
 obtain⟨last,l⟩:=s;dsimp only at hl;generalize hP:qB ⟨last,l⟩ c n k=P;refine en L0 Tryz.f52 ?_;refine sp ?_ ?_<;>intro h1
 ·have h1:c<1:=h1;rw[zj (.inl (.inl h1))]at hP;subst hP;refine wh ?_;exact⟨[],[some 0],_,_,_,t3,rfl,rfl,rfl⟩
 ·have h1:¬c<1:=h1;refine wh ?_;refine sp ?_ ?_<;>intro h2
  ·have h2:6<c:=h2;rw[zj (.inl (.inr h2))]at hP;subst hP;refine wh ?_;exact⟨[],[some 0],_,_,_,t3,rfl,rfl,rfl⟩
  ·have h2:¬6<c:=h2;refine wh ?_;refine sp ?_ ?_<;>intro h3
   ·have h3:n=0:=h3;rw[zj (.inr h3)]at hP;subst hP;refine wh ?_;exact⟨[],[some 0],_,_,_,t3,rfl,rfl,rfl⟩
   ·have h3:¬n=0:=h3;have vM:¬((c<1∨6<c)∨n=0):=by omega
    refine wh ?_;refine⟨[],[some 3,some 1],_,_,_,_,FM c l om,t3,?_⟩;rintro r o' c' ⟨rfl,ws,rfl,⟨rfl,hw⟩|⟨j,rfl,hw,hj⟩⟩
    ·have YV:(others c l).length≤l.length:=List.length_filter_le _ _;have hwl:ws.length=(others c l).length:=by rw[hw]
     refine wh ?_;refine⟨fun q f o cc=>∃i:Nat,i≤l.length∧q=l.length - i∧(∀v∈l.take i,zi c n k v=false)∧cc=5∧f=[(0,.ptr 0 0),(2,.s (.int .u64 n)),(3,.s (.int .u32 k)),(5,.ptr 1 0),(8,.ptr 2 0),(10,.tk 4),(37,.tk 3),(38,.s (.int .i64 l.length)),(39,.s (.int .i64 i))]∧o=[(0,.cells [.s (.int .u64 last),.tk 3]),(1,.cells [.s (.int .i64 c)]),(2,.cells (dq fZ)),(3,.arr 4 true (l.map dq)),(4,.arr 4 true (ws.map dq))],⟨l.length,?_⟩,?_⟩
     ·refine⟨[],[some 0,some 1,some 2,some 3,some 6],?_⟩
      iterate 3 constructor
      refine⟨⟨?_,?_,?_⟩,⟨0,Nat.zero_le _,rfl,by simp,rfl,rfl,rfl⟩⟩
      all_goals(repeat' first|exact LF|constructor)
      all_goals exact Lz.of (by simp[goInt])
     ·rintro q1 f1 o1 c1 ⟨i,hi,rfl,h0,rfl,rfl,rfl⟩;refine wh ?_;refine sp ?_ ?_<;>intro h
      ·have h:i<l.length:=Int.ofNat_lt.1 h;have h9:∀{r:Rd},zi c n k l[i]=false→∀v∈l.take (i+1),zi c n k v=false:=fun hb v m=>by
        rw[List.take_succ_eq_append_getElem h]at m;rcases List.mem_append.1 m with m|m
        ·exact h0 v m
        ·rw[List.mem_singleton]at m;rw[m];exact hb
       refine wh ?_;refine⟨⟨om,by simp;omega⟩,dq l[i],by simp[h],?_⟩;refine wh ?_;refine sp ?_ ?_<;>intro ha
       ·have ha:l[i].aj=c:=ha;refine wh ?_;refine sp ?_ ?_<;>intro hb
        ·have hb:l[i].num=n:=hb;refine wh ?_;refine sp ?_ ?_<;>intro hk
         ·have hk:l[i].key=k:=hk;rw[FN vM (FO h h0 (decide_eq_true ⟨ha,hb,hk⟩))]at hP;subst hP;refine wh ?_;exact⟨[],[some 0],_,_,_,t3,rfl,rfl,rfl⟩
         ·have hk:¬l[i].key=k:=hk;refine wh ?_;rw[wrap_small i om];refine⟨l.length - (i+1),?_,om⟩;exact⟨[],[some 0,some 1,some 2,some 3,some 4],_,_,_,t3,⟨i+1,h,rfl,h9 (r:=fZ) (decide_eq_false fun q=>hk q.2.2),rfl,rfl,rfl⟩⟩
        ·have hb:¬l[i].num=n:=hb;refine wh ?_;rw[wrap_small i om];refine⟨l.length - (i+1),?_,om⟩;exact⟨[],[some 0,some 1,some 2,some 3,some 4],_,_,_,t3,⟨i+1,h,rfl,h9 (r:=fZ) (decide_eq_false fun q=>hb q.2.1),rfl,rfl,rfl⟩⟩
       ·have ha:¬l[i].aj=c:=ha;refine wh ?_;rw[wrap_small i om];refine⟨l.length - (i+1),?_,om⟩;exact⟨[],[some 0,some 1,some 2,some 3,some 4],_,_,_,t3,⟨i+1,h,rfl,h9 (r:=fZ) (decide_eq_false fun q=>ha q.1),rfl,rfl,rfl⟩⟩
      ·obtain rfl:i=l.length:=by have h:¬(i:Int)<l.length:=h;omega
       rw[List.take_length]at h0;have vh:=JW h0;refine wh ?_
       skip
       refine wh ?_;refine sp ?_ ?_<;>intro h6
       ·have h6:16≤(others c l).length:=by(have h7:=h6;simp at h7;omega)
        rw[By vM vh h6]at hP;subst hP;refine wh ?_;exact⟨[],[some 0],_,_,_,t3,rfl,rfl,rfl⟩
       ·have h6:¬16≤(others c l).length:=by(have h7:=h6;simp at h7;omega)
        rw[zk vM vh h6]at hP;subst hP;refine wh ?_;refine⟨by simp;omega,?hx1⟩;refine wh ?_;refine⟨[],[some 0],?_⟩
        iterate 3 constructor
        refine⟨⟨?_,?_,?_⟩,rfl,rfl,rfl⟩
        all_goals(repeat' first|exact LF|constructor)
        all_goals(refine Lz.of ?_;rw[←hw];simp)
    ·have YV:(others c l).length≤l.length:=List.length_filter_le _ _;have M7:j=(others c l).length:=by rw[←hw,List.length_take];omega
     refine wh ?_;refine⟨fun q f o cc=>∃i:Nat,i≤l.length∧q=l.length - i∧(∀v∈l.take i,zi c n k v=false)∧cc=5∧f=[(0,.ptr 0 0),(2,.s (.int .u64 n)),(3,.s (.int .u32 k)),(5,.ptr 1 0),(8,.ptr 2 0),(10,(.pv 4 j)),(37,.tk 3),(38,.s (.int .i64 l.length)),(39,.s (.int .i64 i))]∧o=[(0,.cells [.s (.int .u64 last),.tk 3]),(1,.cells [.s (.int .i64 c)]),(2,.cells (dq fZ)),(3,.arr 4 true (l.map dq)),(4,.arr 4 true (ws.map dq))],⟨l.length,?_⟩,?_⟩
     ·refine⟨[],[some 0,some 1,some 2,some 3,some 6],?_⟩
      iterate 3 constructor
      refine⟨⟨?_,?_,?_⟩,⟨0,Nat.zero_le _,rfl,by simp,rfl,rfl,rfl⟩⟩
      all_goals(repeat' first|exact LF|constructor)
      all_goals exact Lz.of (by simp[goInt])
     ·rintro q1 f1 o1 c1 ⟨i,hi,rfl,h0,rfl,rfl,rfl⟩;refine wh ?_;refine sp ?_ ?_<;>intro h
      ·have h:i<l.length:=Int.ofNat_lt.1 h;have h9:∀{r:Rd},zi c n k l[i]=false→∀v∈l.take (i+1),zi c n k v=false:=fun hb v m=>by
        rw[List.take_succ_eq_append_getElem h]at m;rcases List.mem_append.1 m with m|m
        ·exact h0 v m
        ·rw[List.mem_singleton]at m;rw[m];exact hb
       refine wh ?_;refine⟨⟨om,by simp;omega⟩,dq l[i],by simp[h],?_⟩;refine wh ?_;refine sp ?_ ?_<;>intro ha
       ·have ha:l[i].aj=c:=ha;refine wh ?_;refine sp ?_ ?_<;>intro hb
        ·have hb:l[i].num=n:=hb;refine wh ?_;refine sp ?_ ?_<;>intro hk
         ·have hk:l[i].key=k:=hk;rw[FN vM (FO h h0 (decide_eq_true ⟨ha,hb,hk⟩))]at hP;subst hP;refine wh ?_;exact⟨[],[some 0],_,_,_,t3,rfl,rfl,rfl⟩
         ·have hk:¬l[i].key=k:=hk;refine wh ?_;rw[wrap_small i om];refine⟨l.length - (i+1),?_,om⟩;exact⟨[],[some 0,some 1,some 2,some 3,some 4],_,_,_,t3,⟨i+1,h,rfl,h9 (r:=fZ) (decide_eq_false fun q=>hk q.2.2),rfl,rfl,rfl⟩⟩
        ·have hb:¬l[i].num=n:=hb;refine wh ?_;rw[wrap_small i om];refine⟨l.length - (i+1),?_,om⟩;exact⟨[],[some 0,some 1,some 2,some 3,some 4],_,_,_,t3,⟨i+1,h,rfl,h9 (r:=fZ) (decide_eq_false fun q=>hb q.2.1),rfl,rfl,rfl⟩⟩
       ·have ha:¬l[i].aj=c:=ha;refine wh ?_;rw[wrap_small i om];refine⟨l.length - (i+1),?_,om⟩;exact⟨[],[some 0,some 1,some 2,some 3,some 4],_,_,_,t3,⟨i+1,h,rfl,h9 (r:=fZ) (decide_eq_false fun q=>ha q.1),rfl,rfl,rfl⟩⟩
      ·obtain rfl:i=l.length:=by have h:¬(i:Int)<l.length:=h;omega
       rw[List.take_length]at h0;have vh:=JW h0;refine wh ?_;refine⟨by simp;omega,?YF⟩;refine wh ?_;refine sp ?_ ?_<;>intro h6
       ·have h6:16≤(others c l).length:=by(have h7:=h6;simp at h7;omega)
        rw[By vM vh h6]at hP;subst hP;refine wh ?_;exact⟨[],[some 0],_,_,_,t3,rfl,rfl,rfl⟩
       ·have h6:¬16≤(others c l).length:=by(have h7:=h6;simp at h7;omega)
        rw[zk vM vh h6]at hP;subst hP;refine wh ?_;refine⟨⟨by simp;omega,by simp;omega,by simp⟩,?hx3⟩;refine wh ?_;refine⟨[],[some 0],?_⟩
        iterate 3 constructor
        refine⟨⟨?_,?_,?_⟩,rfl,rfl,rfl⟩
        all_goals(repeat' first|exact LF|constructor)
        all_goals(refine Lz.of ?_;rw[←hw];simp)
theorem Bz {α β:Type} (f:α→β):∀(l:List α) (i:Nat),(l.eraseIdx i).map f=(l.map f).eraseIdx i
 |[],_=>rfl
 |_::_,0=>rfl
 |a::l,i+1=>by show f a::(l.eraseIdx i).map f=f a::(l.map f).eraseIdx i;rw[Bz f l i]
theorem TN (l:List Rd) (i:Nat) (h:i<l.length):VC E0 120 1 [.tk 0,.s (.int .i64 i),.s (.int .i64 ((i+1:Nat):Int))] [(0,.arr 4 true (l.map dq))] (RR (.tk 1) 2 [(1,.arr 4 true ((l.eraseIdx i).map dq))]):=by
 have hd:=VC.SA (E:=E0) (g:=120) (z:=4) (es:=l.map dq) (i:=i) (by show(Tryz.prog.funcs[120]?).isSome=true;kernel_rfl) (fun b a h r hr=>by
  show(match Nat.beq 120 120,Fe 4 b a h with|true,some r=>some r|_,_=>_)=_;rw[hr]) (by simpa using h)
 refine VC.mono hd ?_;rintro r o c ⟨rfl,rfl,rfl⟩;exact⟨rfl,rfl,by rw[Bz]⟩
def gY (s:wa) (t:Int):wa×Rd×Bool:=(⟨s.last,s.l.filter fun r=> !dT t r⟩,((s.l.filter (dT t)).getLast?).getD fZ,s.l.any (dT t))
@[reducible] def zl (l:List Rd):Prop:=l.Pairwise fun a b=>a.token<b.token
theorem JX {l:List Rd} {t:Int} (h:∀v∈l,dT t v=false):(l.filter fun r=> !dT t r)=l∧l.filter (dT t)=[]∧l.any (dT t)=false:=by
 refine⟨List.filter_eq_self.2 fun v m=>by rw[h v m];rfl,List.filter_eq_nil_iff.2 fun v m=>by rw[h v m];decide,?_⟩;rw[List.any_eq_false];intro v m;rw[h v m];decide
theorem FP:∀{l:List Rd} {t:Int} {j:Nat} (_:zl l) (h:j<l.length) (_:dT t l[j]=true),(l.filter fun r=> !dT t r)=l.eraseIdx j∧l.filter (dT t)=[l[j]]∧l.any (dT t)=true
 |[],_,_,_,h,_=>absurd h (by simp)
 |a::l,t,0,hp,_,hb=>by
  have hb:dT t a=true:=hb;have ht:a.token=t:=of_decide_eq_true hb;obtain⟨h1,_⟩:=List.pairwise_cons.1 hp;obtain⟨n1,n2,_⟩:=JX (l:=l) (t:=t) fun v m=>decide_eq_false (by have:=h1 v m;omega);refine⟨?_,?_,?_⟩
  ·rw[List.filter_cons_of_neg (by rw[hb];decide),n1];rfl
  ·rw[List.filter_cons_of_pos hb,n2];rfl
  ·rw[List.any_cons,hb];rfl
 |a::l,t,j+1,hp,h,hb=>by
  have h:j<l.length:=by simpa using h
  have hb:dT t l[j]=true:=hb;have ht:l[j].token=t:=of_decide_eq_true hb;obtain⟨h1,h2⟩:=List.pairwise_cons.1 hp;have ha:dT t a=false:=decide_eq_false (by have:=h1 l[j] (List.getElem_mem h);omega);obtain⟨n1,n2,n3⟩:=FP h2 h hb;refine⟨?_,?_,?_⟩
  ·rw[List.filter_cons_of_pos (by rw[ha];rfl),n1];rfl
  ·rw[List.filter_cons_of_neg (by rw[ha];decide),n2];rfl
  ·rw[List.any_cons,ha,n3];rfl
@[reducible] def abq (p:wa×Rd×Bool):TV:=.dF [.agg (dq p.2.1),.s (.bool p.2.2)]
theorem Qk (s:wa) (t:Int) (hl:s.l.length<1000) (hp:zl s.l):VC E0 54 1 [.ptr 0 0,.s (.int .u64 t)] (Ix s) (RR (abq (gY s t)) 1 (Ix (gY s t).1)):=by
 obtain⟨last,l⟩:=s;dsimp only at hl hp;have hP:gY ⟨last,l⟩ t=(⟨last,l.filter fun r=> !dT t r⟩,((l.filter (dT t)).getLast?).getD fZ,l.any (dT t)):=rfl;generalize gY ⟨last,l⟩ t=P at hP;refine en L0 Tryz.f54 ?_;refine⟨[],[some 3,some 1],_,_,_,_,TL t l om,t3,?_⟩;rintro r o' c' ⟨i0,rfl,rfl,rfl,Jb⟩;refine wh ?_;refine sp ?_ ?_<;>intro hm
 ·have hm:i0<0:=hm;rcases Jb with⟨_,iY⟩|⟨j,h,e,_,_⟩
  ·obtain⟨n1,n2,n3⟩:=JX iY;rw[n1,n2,n3]at hP;subst hP;refine wh ?_;exact⟨[],[some 0],_,_,_,t3,rfl,rfl,rfl⟩
  ·omega
 ·have hm:¬i0<0:=hm;rcases Jb with⟨e,_⟩|⟨j,h,rfl,hb,hv⟩
  ·omega
  obtain⟨n1,n2,n3⟩:=FP hp h hv;rw[n1,n2,n3]at hP;subst hP;refine wh ?_;refine⟨⟨om,by simp;omega⟩,dq l[j],by simp[h],?_⟩;refine wh ?_;rw[wrap_small j om];refine⟨[],[some 3],_,_,_,_,TN l j h,t3,cw ?_⟩;exact⟨[],[some 0],_,_,_,t3,rfl,rfl,rfl⟩
@[reducible] noncomputable def XU (x:RS) (k:Nat):TO:=.cells [.s (.int .i64 x.node),.s (.int .i64 x.ao.chain),.s (.int .u64 x.ao.aJ),.sl 1 (x.ao.nodes.map gl) false,.s (.bool x.ao.fresh),.s (.int .i64 x.ao.join),
 .s (.bool x.role.m7),.s (.bool x.role.lP),.s (.bool x.role.head),.s (.bool x.role.tail),.s (.bool x.role.waits),.s (.int .i64 x.role.place),.s (.int .i64 x.role.pred),.s (.int .i64 x.role.succ),
 .ptr k 0,.own (Xw x.ar),.s (.int .u64 x.base),.s (.bool x.cU),.s (.int .u64 x.bo),.s (.bool x.known),Va,.s (.int .i64 x.want),.own (inT x.comes),.own (.arr 25 true (x.out.map aE))]
theorem tL (x:RS):VC E0 30 1 [.ptr 0 0] (gX x) (RR (.ptr 1 0) 2 [(0,XU x 1),(1,PV x.st)]):=by
 refine en L0 Tryz.f30 ?_
 repeat((first|(refine⟨fun h_=>?_,fun h_=>?_⟩)|(refine aA (fun h_=>?_) (fun h_=>?_))|(refine az (fun h_=>?_) (fun h_=>?_)))<;>first|(exfalso;revert h_;decide;done)|(exact absurd rfl h_)|(have bq:=True.intro;clear bq;(conv=>whnf)))
 exact⟨[],[some 0,some 1],_,_,_,t3,rfl,rfl,rfl⟩
theorem Ql (x:RS):VC E0 34 1 [.ptr 0 0] (gX x) (RR (.s (.bool x.cU)) 1 (gX x)):=by
 refine en L0 Tryz.f34 ?_
 repeat((first|(refine⟨fun h_=>?_,fun h_=>?_⟩)|(refine aA (fun h_=>?_) (fun h_=>?_))|(refine az (fun h_=>?_) (fun h_=>?_)))<;>first|(exfalso;revert h_;decide;done)|(exact absurd rfl h_)|(have bq:=True.intro;clear bq;(conv=>whnf)))
 exact⟨[],[some 0],_,_,_,t3,rfl,rfl,rfl⟩
theorem tM (x:RS):VC E0 26 1 [.ptr 0 0] (gX x) (RR (.agg (JM x.role)) 1 (gX x)):=by
 refine en L0 Tryz.f26 ?_
 repeat((first|(refine⟨fun h_=>?_,fun h_=>?_⟩)|(refine aA (fun h_=>?_) (fun h_=>?_))|(refine az (fun h_=>?_) (fun h_=>?_)))<;>first|(exfalso;revert h_;decide;done)|(exact absurd rfl h_)|(have bq:=True.intro;clear bq;(conv=>whnf)))
 exact⟨[],[some 0],_,_,_,t3,rfl,rfl,rfl⟩
theorem nh (x:RS) (h:x.ao.nodes.length<1000000):VC E0 23 1 [.ptr 0 0] (gX x) (RR (.agg (b9 x.ao)) 1 (gX x)):=by
 have hcp:=Bi [x.ao] (by show(1:Nat)<10000;decide) (fun d hd=>by simp at hd;subst hd;exact h);refine en L0 Tryz.f23 ?_
 repeat((first|(refine⟨fun h_=>?_,fun h_=>?_⟩)|(refine aA (fun h_=>?_) (fun h_=>?_))|(refine az (fun h_=>?_) (fun h_=>?_)))<;>first|(exfalso;revert h_;decide;done)|(exact absurd rfl h_)|(have bq:=True.intro;clear bq;(conv=>whnf)))
 refine⟨[2],[],_,_,_,_,hcp,t3,cw ?_⟩;refine⟨⟨by decide,by simp⟩,?_⟩;refine wh ?_;refine⟨b9 x.ao,rfl,?_⟩;refine wh ?_;exact⟨[],[some 0],_,_,_,t3,rfl,rfl,rfl⟩
structure eB where
 node:Int
 bm:Int
 x:RS
 rd:wa
@[reducible] noncomputable def mB (s:eB):TO:=.cells [.s (.int .i64 s.node),.s (.int .i64 1),.s (.int .i64 s.bm),.own (lq s.x),.own (XT s.rd)]
@[reducible] def svC (s:eB):TO:=.cells [.s (.int .i64 s.node),.s (.int .i64 1),.s (.int .i64 s.bm),.ptr 1 0,.ptr 2 0]
@[reducible] noncomputable def nr (s:eB):Ob:=[(0,svC s),(1,lq s.x),(2,XT s.rd)]
@[reducible] def pQ (l:List Lr):TO:=.arr 25 true (l.map aE)
theorem Qm (s:eB):VC E0 13 3 [.ptr 0 0] (nr s) (RR (.s (.bool (s.x.role.m7&&s.x.cU))) 3 (nr s)):=by
 obtain⟨node,bm,x,rd⟩:=s;have tU:=tM x;have jA:=Ql x;obtain⟨Vj,ao,⟨ri,rj,rh,rt,JN,M5,L9,JO⟩,st,ar,base,cU,bo,known,want,comes,out⟩:=x;cases ri with
 |false=>
  refine en L0 Tryz.f13 ?_
  repeat((first|(refine⟨fun h_=>?_,fun h_=>?_⟩)|(refine aA (fun h_=>?_) (fun h_=>?_))|(refine az (fun h_=>?_) (fun h_=>?_)))<;>first|(exfalso;revert h_;decide;done)|(exact absurd rfl h_)|(have bq:=True.intro;clear bq;(conv=>whnf)))
  refine⟨[],[some 1],_,_,_,_,tU,t3,cw ?_⟩;exact⟨[],[some 0,some 1,some 2],_,_,_,t3,rfl,rfl,rfl⟩
 |true=>
  refine en L0 Tryz.f13 ?_
  repeat((first|(refine⟨fun h_=>?_,fun h_=>?_⟩)|(refine aA (fun h_=>?_) (fun h_=>?_))|(refine az (fun h_=>?_) (fun h_=>?_)))<;>first|(exfalso;revert h_;decide;done)|(exact absurd rfl h_)|(have bq:=True.intro;clear bq;(conv=>whnf)))
  refine⟨[],[some 1],_,_,_,_,tU,t3,cw ?_⟩;refine⟨[],[some 1],_,_,_,_,jA,t3,cw ?_⟩;exact⟨[],[some 0,some 1,some 2],_,_,_,t3,rfl,rfl,rfl⟩
@[reducible] def Qn (s:eB) (l:Lr) (to:Int):Lr:=if l.kind=15∨l.kind=16 then {l with HZ:=s.node,to:=to,chain:=s.x.ao.chain,aJ:=s.x.ao.aJ}else {l with HZ:=s.node,to:=to}
theorem tN (s:eB) (l:Lr) (to:Int) (h:s.x.ao.nodes.length<1000000):VC E0 25 3 [.ptr 0 0,.agg (aE l),.s (.int .i64 to)] (nr s) (RR (.agg (aE (Qn s l to))) 3 (nr s)):=by
 have r8:=nh s.x h;by_cases hk:l.kind=15∨l.kind=16
 ·rw[show Qn s l to=_ from if_pos hk];refine en L0 Tryz.f25 ?_;refine sp ?_ ?_<;>intro h1
  ·refine wh ?_;refine⟨[],[some 1],_,_,_,_,r8,t3,cw ?_⟩;exact⟨[],[some 0,some 1,some 2],_,_,_,t3,rfl,rfl,rfl⟩
  ·have h1:¬l.kind=15:=h1;refine wh ?_;refine sp ?_ ?_<;>intro h2
   ·refine wh ?_;refine⟨[],[some 1],_,_,_,_,r8,t3,cw ?_⟩;exact⟨[],[some 0,some 1,some 2],_,_,_,t3,rfl,rfl,rfl⟩
   ·have h2:¬l.kind=16:=h2;exact absurd hk om
 ·rw[show Qn s l to=_ from if_neg hk];refine en L0 Tryz.f25 ?_;refine sp ?_ ?_<;>intro h1
  ·exact absurd (.inl h1) hk
  ·refine wh ?_;refine sp ?_ ?_<;>intro h2
   ·exact absurd (.inr h2) hk
   ·refine wh ?_;exact⟨[],[some 0,some 1,some 2],_,_,_,t3,rfl,rfl,rfl⟩
@[reducible] def Mw (s:eB) (aj num key:Int) (v:Vs):Lr:=⟨20,s.node,aj,0,0,num,0,0,v.bA,0,0,[],v.data,key⟩
theorem Qo (s:eB) (aj num key:Int) (v:Vs) (h:s.x.ao.nodes.length<1000000):VC E0 51 3 [.ptr 0 0,.s (.int .i64 aj),.s (.int .u64 num),.s (.int .u32 key),.agg (gH v)] (nr s) (RR (.tk 3) 4 (nr s++[(3,pQ [Mw s aj num key v])])):=by
 have ht:=tN s ⟨20,0,0,0,0,num,0,0,v.bA,0,0,[],v.data,key⟩ aj h;refine en L0 Tryz.f51 ?_;refine⟨[],[some 0,some 1,some 2],_,_,_,_,ht,t3,cw ?_⟩;exact⟨[],[some 0,some 1,some 2,some 7],_,_,_,t3,rfl,rfl,rfl⟩
@[reducible] def rX (s:eB) (r:Rd):Lr:=tI s.node (dO s.x.ao) s.x.ao.chain s.x.ao.aJ r.token r.key
theorem JY (s:eB) (r:Rd) (H:bp s.x.ao):VC E0 53 3 [.ptr 0 0,.agg (dq r)] (nr s) (RR (.tk 3) 4 (nr s++[(3,pQ [rX s r])])):=by
 have hl:s.x.ao.nodes.length<1000000:=by have:=H.2.2.1;omega
 have ht:=tN s (tI 0 0 0 0 r.token r.key) (dO s.x.ao) hl;have YX:=y6 s.x.ao H;have r8:=nh s.x hl;refine en L0 Tryz.f53 ?_;refine⟨[],[some 1],_,_,_,_,r8,t3,cw ?_⟩;refine⟨[],[],_,_,_,_,YX,t3,cw ?_⟩;refine⟨[],[some 0,some 1,some 2],_,_,_,_,ht,t3,cw ?_⟩;exact⟨[],[some 0,some 1,some 2,some 8],_,_,_,t3,rfl,rfl,rfl⟩
end Go.M
