/-
  Part 6 of the library that the proof leans on.
-/
import Derived.Test.YteoljjhhdgplnaaGreatDoorL5
namespace Go.M
open Go
section
variable {X:Cx} {ρ ρ':Gh} {F:Nat→Prop} {o o':Ob} {c c':Nat} {h h':ah}
theorem ext_get {f aS t0 fy:Nat} {c0 cs:List Value} (hf:h.get f=some (.cells c0 f t0 fy)) (b:Nat):(eL h f aS cs).get b=if b=h.size then some (.cells cs f 0 0)else if b=f then some (.cells c0 f h.size aS)else h.get b:=by
 unfold eL;rw[ah.al,bI,bF,hf]
theorem vq {f aS:Nat} {cs:List Value}:(eL h f aS cs).size=h.size+1:=by unfold eL;rw[ah.size_push,bI]
theorem Rm (W:Wf h) {f aS t0 fy:Nat} {c0 cs:List Value} (hf:h.get f=some (.cells c0 f t0 fy)):Wf (eL h f aS cs):=by
 have uY:=W.lt hf;refine⟨fun b hb=>?_,fun b cs' f' t th hg=>?_⟩
 ·rw[vq]at hb;rw[ext_get hf,if_neg om,if_neg om];exact W.high b om
 ·rw[ext_get hf]at hg;split at hg
  ·cases hg;omega
  ·split at hg
   ·cases hg;omega
   ·exact W.le _ _ _ _ _ hg
theorem Z5 {f aS t0 fy:Nat} {c0 cs:List Value} (hf:h.get f=some (.cells c0 f t0 fy)) {b:Nat} (hb:b<h.size):hd (eL h f aS cs) b=hd h b:=by
 unfold hd;rw[ext_get hf,if_neg om];by_cases e:b=f
 ·subst e;rw[if_pos rfl,hf]
 ·rw[if_neg e]
theorem Rn (W:Wf h) {f t0 aS:Nat} {c0 cs:List Value} (hf:h.get f=some (.cells c0 f t0 aS)) {b:Nat} {l:List Value} (hr:h.rd b=some l):(eL h f aS cs).rd b=some l:=by
 obtain⟨r,h1,h2,h3⟩:=rd_some hr;obtain⟨f1,t1,zJ,hg⟩:=ef h3;obtain⟨cr,jI⟩:=bS h1;obtain⟨wi,q1,q2,od⟩:=eA h1;rw[hg]at od;cases od;have hb:=W.lt hg;have uY:=W.lt jI;have ql:∃t th,(eL h f aS cs).get b=some (.cells l r.1 t th):=by
  rw[ext_get hf,if_neg om];by_cases e:b=f
  ·rw[if_pos e];subst e;rw[hg]at hf;cases hf;exact⟨_,_,rfl⟩
  ·rw[if_neg e,hg];exact⟨_,_,rfl⟩
 obtain⟨t,th,ql⟩:=ql;by_cases e:r.1=f
 ·have BQ:(eL h f aS cs).get r.1=some (.cells cr r.1 h.size r.2.2):=by
   have Z6:=hf;rw[←e,jI]at Z6;simp only[Option.some.injEq,eC.cells.injEq]at Z6;rw[ext_get hf,if_neg om,if_pos e,Z6.1,Z6.2.2.2,e]
  exact eu (bR ql BQ) h2 (az ql)
 ·have BQ:(eL h f aS cs).get r.1=some (.cells cr r.1 r.2.1 r.2.2):=by rw[ext_get hf,if_neg om,if_neg e,jI]
  exact eu (bR ql BQ) h2 (az ql)
theorem eJ {S:Ft} {x:Nat} {w:Bool} (h:(x,w)∈S):x∈cM S:=List.mem_map.2 ⟨_,h,rfl⟩
theorem j5 {f:Nat} (W:Wf h) (same:∀x,x<h.size→hd h x≠f→h'.get x=h.get x) {b:Nat} {cs:List Value} (bC:hd h b≠f) (hr:h.rd b=some cs):h'.rd b=some cs:=by
 obtain⟨r,h1,h2,h3⟩:=rd_some hr;obtain⟨f1,t1,zJ,hg⟩:=ef h3;obtain⟨cr,jI⟩:=bS h1;obtain⟨wi,q1,q2,od⟩:=eA h1;rw[hg]at od;cases od;rw[cy hg]at bC;have a1:=same b (W.lt hg) (by rw[cy hg];exact bC);have a2:=same r.1 (W.lt jI) (by rw[cy jI];exact bC);exact eu (bR (a1.trans hg) (a2.trans jI)) h2 (az (a1.trans hg))
theorem Mem.aej (H:Mem X ρ F o c h) {S:Nat→Ft} (K:MO X ρ F o c h S) {m z l len':Nat} {w:Bool} (dA:Nat) {y y':TO} {Sq:Ft} (hl:look o m=some y) {b f t0 fy aS:Nat} {cs cs':List Value} (hS:S m=(f,w)::Sq) (hb:ρ m=some (.arr b z l)) (hg:h.get b=some (.cells cs f t0 fy))
 (hf:h.dQ b=some (f,b,aS)) (_:aS≤b) (JA:dA≤h.size) (hw9:dA=aS∨w=true):
 let h':=eL h f dA cs'
 let ρ':=cP (cP ρ m none) c (some (.arr h.size z len'))
 let F':=fun x=>F x∨(w=false∧x=h.size)
 (xU:(∀t v,VR c ρ F h t v→VR (c+1) ρ' F' h' t v)→(∀b,b<h.size→¬(hd h b=f)→h'.get b=h.get b)→(∀b cs,F b→h.rd b=some cs→h'.rd b=some cs)→h'.get h.size=some (.cells cs' f 0 0)→h'.dQ h.size=some (f,h.size,dA)→OR (c+1) ρ' F' h' X.base c ((f,w)::Sq) y')→
 Mem X ρ' F' ((c,y')::fY o m) (c+1) h'∧∀t v,VR c ρ F h t v→VR (c+1) ρ' F' h' t v:=by
 intro h' ρ' F' xU;have hm:=H.lt hl;obtain⟨c0,bZ⟩:=bS hf;simp only at bZ;have uY:=H.wf.lt bZ;have BT:f∈cM (S m):=by rw[hS];exact List.mem_cons_self
 have tt:=K.eG m _ f hl BT;have Mr:=K.B7 m _ hl;have fN:∀n,n≠m→n≠c→ρ' n=ρ n:=fun n h1 h2=>by simp only[ρ'];rw[bA _ _ h2,bA _ _ h1]
 have hA:∀n l,n<c→ρ' n=some l→ρ n=some l:=fun n l hn h1=>by
  by_cases e:n=m
  ·subst e;simp only[ρ']at h1;rw[bA _ _ om,aR]at h1;cases h1
  ·rwa [fN n e om]at h1
 have hB:∀n b,ρ n=some (.dJ b)→ρ' n=some (.dJ b):=fun n b' hn=>by
  have:=H.names _ _ hn;by_cases e:n=m
  ·subst e;rw[hb]at hn;cases hn
  ·rwa [fN n e om]
 have qy:∀b,F b→F' b:=fun b hb=>.inl hb;have aek:∀b,b<h.size→hd h b≠f→h'.get b=h.get b:=fun b' cA hx=>by
  simp only[h'];rw[ext_get bZ,if_neg om,if_neg];intro e;subst e;exact hx (cy bZ)
 have c7:∀b cs,F b→h.rd b=some cs→h'.rd b=some cs:=fun b cs hb hr=>by
  rcases hw9 with e|e
  ·simp only[h'];rw[e];exact Rn H.wf bZ hr
  ·exact j5 H.wf aek (K.apart m _ f b hl (by rw[hS,e];exact List.mem_cons_self) hb) hr
 have Hl:∀t v,VR c ρ F h t v→VR (c+1) ρ' F' h' t v:=fun t v=>VR.mono om hA hB qy c7;have wz:h'.get h.size=some (.cells cs' f 0 0):=by simp only[h'];rw[ext_get bZ,if_pos rfl]
 have Z7:h'.get f=some (.cells c0 f h.size dA):=by simp only[h'];rw[ext_get bZ,if_neg om,if_pos rfl]
 have QF:=H.wf.lt hg;have aiu:(h'.rd h.size)=some cs':=eu (bR wz Z7) (by simp only;omega) (az wz);have same:∀b,b<h.size→¬(hd h b=f)→h'.get b=h.get b:=fun b' cA hx=>by
  simp only[h'];rw[ext_get bZ,if_neg om,if_neg];intro e;subst e;exact hx (cy bZ)
 have xV:∀n y1,n≠c→look ((c,y')::fY o m) n=some y1→n≠m∧look o n=some y1:=fun n y1 bC hy=>by
  rw[aQ,if_neg (fun e=>bC e.symm),dP]at hy;by_cases e:n=m
  ·rw[if_pos e]at hy;cases hy
  ·rw[if_neg e]at hy;exact⟨e,hy⟩
 refine H.change K (fun x=>x=f) c y' ((f,w)::Sq) (by simp only[h'];rw[vq];omega) (Rm H.wf bZ) (fun x hx=>by subst hx;exact tt.2.2)
  same c7 (fun b' cA=>Z5 bZ cA) qy (fun b' cA hn=>?_) om hA hB (fun n l hn=>?_) (fun n y1 bC hy=>?_) (fun y1 hy=>?_) (xU Hl same c7 wz (bR wz Z7)) (by rw[←hS];exact Mr) (fun x hx=>?_) fun x b' hx cA=>?_
 ·rcases cA with cA|⟨hw,rfl⟩
  ·exact absurd cA hn
  ·refine⟨by rw[aiu];rfl,fun n y1 x bC hy hx e=>?_,fun x hx e=>?_,by rw[cy wz];exact tt.2.2⟩
   ·rw[cy wz]at e;subst e;obtain⟨h1,h2⟩:=xV n y1 bC hy;exact h1 (K.ff n m y1 _ _ h2 hl (eJ hx) BT)
   ·rw[cy wz]at e;subst e;rw[hS]at Mr;simp only[cM,List.map_cons,List.nodup_cons]at Mr;rcases List.mem_cons.1 hx with e|hx
    ·simp only[Prod.mk.injEq]at e;rw[hw]at e;exact absurd e.2 (by simp)
    ·exact Mr.1 (List.mem_map.2 ⟨_,hx,rfl⟩)
 ·by_cases e:n=c
  ·omega
  ·by_cases e2:n=m
   ·omega
   ·rw[fN n e2 e]at hn;have:=H.names _ _ hn;omega
 ·obtain⟨h1,h2⟩:=xV n y1 bC hy;refine⟨h2,fN n h1 bC,fun x hx e=>?_⟩;subst e;exact h1 (K.ff n m y1 _ x h2 hl hx BT)
 ·rw[aQ,if_pos rfl,Option.some.injEq]at hy;exact hy.symm
 ·rw[←hS]at hx;obtain⟨q1,q2,q3⟩:=K.eG m _ x hl hx;refine⟨q1,by simp only[h'];rw[vq];omega,q3,fun n y1 bC hy hh=>?_⟩;obtain⟨h1,h2⟩:=xV n y1 bC hy;exact h1 (K.ff n m y1 _ x h2 hl hh hx)
 ·rw[←hS]at hx;exact K.apart m _ x b' hl hx cA
theorem VS {b f t0 fy t1 zJ:Nat} {c0 c1:List Value} (hg:h.get b=some (.cells c0 f t0 fy)) (hf:h.get f=some (.cells c1 f t1 zJ)) (cs':List Value) (x:Nat):
 ((h.setCells b cs').bM f b b).get x=if x=f then some (.cells (if f=b then cs' else c1) f b b)else if x=b then some (.cells cs' f t0 fy)else h.get x:=by
 rw[bF,bN,bN,hg];by_cases e:f=b
 ·subst e;simp
 ·simp[e,hf]
theorem Hm (b f:Nat) (cs':List Value):((h.setCells b cs').bM f b b).size=h.size:=by rw[bI,cX]
theorem Ms {base b f aS t0 fy:Nat} {c0 cs':List Value} (_:h.get b=some (.cells c0 f t0 fy)) (hf:h.dQ b=some (f,b,aS)) (h1:base≤b) (h2:base≤f):
 h.wr base b cs'=some ((h.setCells b cs').bM f b b):=by
 unfold ah.wr;rw[hf];simp[bL,aL.2 h1,aL.2 h2]
structure aiv (h:ah) (b f:Nat) (cs':List Value) (h':ah):Prop where
 size:h'.size=h.size
 wf:Wf h'
 self:∃t th,h'.get b=some (.cells cs' f t th)
 dQ:h'.dQ b=some (f,b,b)
 same:∀x,x<h.size→hd h x≠f→h'.get x=h.get x
 cM:∀x,hd h' x=hd h x
theorem E3 (W:Wf h) {b f aS t0 fy:Nat} {c0 cs':List Value} (hg:h.get b=some (.cells c0 f t0 fy)) (hf:h.dQ b=some (f,b,aS)):aiv h b f cs' ((h.setCells b cs').bM f b b):=by
 obtain⟨cr,bZ⟩:=bS hf;simp only at bZ;have hb:=W.lt hg;have uY:=W.lt bZ;have hle:=W.le _ _ _ _ _ hg;have get:=fun x=>VS hg bZ cs' x;have Z7:((h.setCells b cs').bM f b b).get f=some (.cells (if f=b then cs' else cr) f b b):=by
  rw[get,if_pos rfl]
 have ql:∃t th,((h.setCells b cs').bM f b b).get b=some (.cells cs' f t th):=by
  by_cases e:b=f
  ·subst e;exact⟨b,b,by rw[Z7,if_pos rfl]⟩
  ·rw[get,if_neg e,if_pos rfl];exact⟨_,_,rfl⟩
 obtain⟨t,th,ql⟩:=ql;have E4:∀x,x≠f→x≠b→((h.setCells b cs').bM f b b).get x=h.get x:=fun x h1 h2=>by rw[get,if_neg h1,if_neg h2]
 refine⟨Hm _ _ _,⟨fun x hx=>?_,fun x wi f1 t1 zJ hx=>?_⟩,⟨t,th,ql⟩,bR ql Z7,fun x hx bC=>?_,fun x=>?_⟩
 ·rw[Hm]at hx;rw[E4 x om om];exact W.high x hx
 ·by_cases e1:x=f
  ·subst e1;rw[Z7]at hx;cases hx;exact Nat.le_refl _
  ·by_cases e2:x=b
   ·subst e2;rw[ql]at hx;cases hx;exact hle
   ·rw[E4 x e1 e2]at hx;exact W.le _ _ _ _ _ hx
 ·refine E4 x (fun e=>?_) (fun e=>?_)
  ·subst e;exact bC (cy bZ)
  ·subst e;exact bC (cy hg)
 ·by_cases e1:x=f
  ·subst e1;rw[cy Z7,cy bZ]
  ·by_cases e2:x=b
   ·subst e2;rw[cy ql,cy hg]
   ·unfold hd;rw[E4 x e1 e2]
theorem Mem.set (H:Mem X ρ F o c h) {S:Nat→Ft} (K:MO X ρ F o c h S) {m:Nat} {y y':TO} {S0:Ft} (hl:look o m=some y) {f:Nat} (hf:(f,true)∈S m) (vt:∀p∈S0,p∈S m) (Ap:(cM S0).Nodup) (fq:h'.size=h.size) (L4:Wf h')
 (same:∀x,x<h.size→hd h x≠f→h'.get x=h.get x) (Z8:∀x,hd h' x=hd h x)
 (xU:(∀t v,VR c ρ F h t v→VR c ρ F h' t v)→(∀b cs,F b→h.rd b=some cs→h'.rd b=some cs)→OR c ρ F h' X.base m S0 y'):
 Mem X ρ F (fu o m y') c h'∧∀t v,VR c ρ F h t v→VR c ρ F h' t v:=by
 have tt:=K.eG m y f hl (eJ hf);have c7:∀b cs,F b→h.rd b=some cs→h'.rd b=some cs:=fun b cs hb hr=>j5 H.wf same (K.apart m y f b hl hf hb) hr;have Hl:∀t v,VR c ρ F h t v→VR c ρ F h' t v:=fun t v=>VR.mono (Nat.le_refl _) (fun _ _ _ hx=>hx) (fun _ _ hx=>hx) (fun _ hb=>hb) c7;have Gv:∀x∈cM S0,x∈cM (S m):=fun x hx=>by
  obtain⟨p,hp,rfl⟩:=List.mem_map.1 hx;exact List.mem_map.2 ⟨p,vt p hp,rfl⟩
 have YG:∀n y1,n≠m→look (fu o m y') n=some y1→look o n=some y1:=fun n y1 bC hy=>by rwa [eQ,if_neg bC]at hy
 refine H.change K (fun x=>x=f) m y' S0 om L4 (fun x hx=>by subst hx;exact tt.2.2) (fun b hb hx=>same b hb hx) c7 (fun b _=>Z8 b) (fun _ hb=>hb) (fun _ hb hn=>absurd hb hn) (Nat.le_refl _) (fun _ _ _ hx=>hx) (fun _ _ hx=>hx) H.names
  (fun n y1 bC hy=>?_) (fun y1 hy=>?_) (xU Hl c7) Ap (fun x hx=>?_) fun x b hx hb=>K.apart m y x b hl (vt _ hx) hb
 ·refine⟨YG n y1 bC hy,rfl,fun x hx e=>?_⟩;subst e;exact bC (K.ff n m y1 y x (YG n y1 bC hy) hl hx (eJ hf))
 ·rw[eQ,if_pos rfl,hl]at hy;simp at hy;exact hy.symm
 ·obtain⟨q1,q2,q3⟩:=K.eG m y x hl (Gv x hx);exact⟨q1,om,q3,fun n y1 bC hy hh=>bC (K.ff n m y1 y x (YG n y1 bC hy) hl hh (Gv x hx))⟩
def p6 (ρ:Gh) (c:Nat) (ls:List Loc):Gh:=fun n=>if n<c then ρ n else ls[n - c]?
theorem fZ (ρ:Gh) {c n:Nat} (ls:List Loc) (h:n<c):p6 ρ c ls n=ρ n:=if_pos h
theorem vu (ρ:Gh) (c i:Nat) (ls:List Loc):p6 ρ c ls (c+i)=ls[i]? :=by unfold p6;rw[if_neg om];congr 1;omega
theorem wE {base:Nat} {Ss:List Ft} {new:List (Nat×TO)} {ls:List Loc}:∀{k:Nat},Hh F h base k Ss new ls→∀n,look new n=if n<k then none else(new[n - k]?).map (·.2):=by
 intro k N;have key:∀(new:List (Nat×TO)) (k:Nat),(∀(i:Nat) p,new[i]? =some p→p.1=k+i)→∀n,look new n=if n<k then none else(new[n - k]?).map (·.2):=by
  intro new
  induction new with
  |nil=>intro k _ n;simp[look]
  |cons p l ih=>
   intro k hk n;have h0:=hk 0 p rfl;rw[aQ];have ih':=ih (k+1) (fun i q hq=>by have:=hk (i+1) q (by simpa using hq);omega) n;by_cases e:p.1=n
   ·rw[if_pos e,if_neg om];have:n - k=0:=by omega
    rw[this];rfl
   ·rw[if_neg e,ih'];by_cases e1:n<k
    ·rw[if_pos om,if_pos e1]
    ·rw[if_neg om,if_neg e1];have:n - k=(n - (k+1))+1:=by omega
     rw[this,List.getElem?_cons_succ]
 exact key new k fun i p hp=>(N.nth i p hp).1
theorem Mem.opens (H:Mem X ρ F o c h) {S:Nat→Ft} (K:MO X ρ F o c h S) {m0:Nat} {y0 y1:TO} {S0:Ft} {Ss:List Ft} {new:List (Nat×TO)} {ls:List Loc} (hl:look o m0=some y0) (N:Hh F h X.base c Ss new ls) (hp:(S m0).Perm (S0++Ss.flatten))
 (xU:(∀t v,VR c ρ F h t v→VR (c+new.length) (p6 ρ c ls) F h t v)→OR (c+new.length) (p6 ρ c ls) F h X.base m0 S0 y1):
 Mem X (p6 ρ c ls) F (new++fu o m0 y1) (c+new.length) h∧∀t v,VR c ρ F h t v→VR (c+new.length) (p6 ρ c ls) F h t v:=by
 have hA:∀n l,n<c→p6 ρ c ls n=some l→ρ n=some l:=fun n l hn h1=>by rwa [fZ _ _ hn]at h1
 have hB:∀n b,ρ n=some (.dJ b)→p6 ρ c ls n=some (.dJ b):=fun n b h1=>by rw[fZ _ _ (H.names _ _ h1)];exact h1
 have hm:∀t v,VR c ρ F h t v→VR (c+new.length) (p6 ρ c ls) F h t v:=fun t v=>VR.mono om hA hB (fun _ h=>h) (fun _ _ _ h=>h);have JO:=H.lt hl
 let S':Nat→Ft:=fun n=>if n<c then(if n=m0 then S0 else S n)else(Ss[n - c]?).getD []
 have s0:S' m0=S0:=(if_pos JO).trans (if_pos rfl);have s1:∀n,n<c→n≠m0→S' n=S n:=fun n h1 h2=>(if_pos h1).trans (if_neg h2);have s2:∀i:Nat,S' (c+i)=(Ss[i]?).getD []:=fun i=>(if_neg om).trans (by rw[Nat.add_sub_cancel_left]);have hpm:(cM (S m0)).Perm (cM S0++cM Ss.flatten):=by rw[←sa];exact hp.map _
 have Ap:(cM S0++cM Ss.flatten).Nodup:=hpm.nodup_iff.1 (K.B7 m0 _ hl);have inS:∀(i:Nat) Q,Ss[i]? =some Q→∀p∈Q,p∈S m0:=fun i Q hQ p hpQ=>hp.mem_iff.2 (List.mem_append_right _ (List.mem_flatten.2 ⟨Q,List.mem_of_getElem? hQ,hpQ⟩))
 -- where an object comes from
 have mh:∀n y,look (new++fu o m0 y1) n=some y→(n=m0∧y=y1)∨(n<c∧n≠m0∧look o n=some y)∨∃(i:Nat) (Q:Ft) (l:Loc),n=c+i∧Ss[i]? =some Q∧ls[i]? =some l∧CR F h X.base Q (.o y l):=by
  intro n y hn;rw[kh,wE N]at hn;by_cases hc:n<c
  ·rw[if_pos hc]at hn;simp only at hn;rw[eQ]at hn;by_cases e:n=m0
   ·rw[if_pos e,hl]at hn;simp at hn;exact .inl ⟨e,hn.symm⟩
   ·rw[if_neg e]at hn;exact .inr (.inl ⟨hc,e,hn⟩)
  ·rw[if_neg hc]at hn;cases hq:new[n - c]? with
   |none=>
    rw[hq]at hn;simp only[Option.map_none]at hn;rw[eQ,if_neg om]at hn;exact absurd (H.lt hn) hc
   |some p=>
    rw[hq]at hn;simp only[Option.map_some,Option.some.injEq]at hn;subst hn;obtain⟨_,Q,l,h1,h2,h3⟩:=N.nth _ _ hq;exact .inr (.inr ⟨n - c,Q,l,om,h1,h2,h3⟩)
 have YH:∀n y,look (new++fu o m0 y1) n=some y→∀p∈S' n,(n<c∧n≠m0∧p∈S n∧look o n=some y)∨p∈S m0:=by
  intro n y hn p Vf;rcases mh n y hn with⟨rfl,_⟩|⟨h1,h2,h3⟩|⟨i,Q,l,rfl,h1,_,_⟩
  ·rw[s0]at Vf;exact .inr (hp.mem_iff.2 (List.mem_append_left _ Vf))
  ·rw[s1 n h1 h2]at Vf;exact .inl ⟨h1,h2,Vf,h3⟩
  ·rw[s2,h1]at Vf;exact .inr (inS i Q h1 p Vf)
 refine⟨⟨⟨S',fun n y hn=>?_,fun n y hn=>?_,fun n1 n2 z1 z2 x h1 h2 k1 k2=>?_,fun n y x hn hx=>?_,fun n y x b hn hx hb=>?_⟩,fun n l hn=>?_,H.frozen,H.F0,H.wf,H.jb,H.mF,H.yR,?_,fun k l hk hl=>?_,fun k b hk hb=>?_⟩,hm⟩
 ·rcases mh n y hn with⟨rfl,rfl⟩|⟨h1,h2,h3⟩|⟨i,Q,l,rfl,h1,h2,h3⟩
  ·rw[s0];exact xU hm
  ·rw[s1 n h1 h2];exact(K.cC n y h3).bx (T:=fun _=>False) H.wf (fun _ _ _=>rfl) (fun _ _ hf=>hf.elim) (fun _ h=>h) (fun _ _ _ h=>h) hm (fZ _ _ h1)
  ·rw[s2,h1];exact OR.uk h3 (by rw[vu];exact h2)
 ·rcases mh n y hn with⟨rfl,rfl⟩|⟨h1,h2,h3⟩|⟨i,Q,l,rfl,h1,h2,h3⟩
  ·rw[s0];exact(List.nodup_append.1 Ap).1
  ·rw[s1 n h1 h2];exact K.B7 n y h3
  ·rw[s2,h1];have:(Q.map (·.1)).Sublist (cM Ss.flatten):=(List.sublist_flatten_of_mem (List.mem_of_getElem? h1)).map _;exact this.nodup (List.nodup_append.1 Ap).2.1
 ·have idx:∀(i j:Nat) (Q R:Ft) (x:Nat),Ss[i]? =some Q→Ss[j]? =some R→x∈cM Q→x∈cM R→i=j:=by
   have uY:(Ss.map cM).flatten.Nodup:=by
    have:=(List.nodup_append.1 Ap).2.1;unfold cM at this;rw[List.map_flatten]at this;exact this
   intro i j Q R x hi hj hxi hxj;have pw:=List.pairwise_iff_getElem.1 (List.pairwise_flatten.1 uY).2;have key:∀(i j:Nat) (Q R:Ft),Ss[i]? =some Q→Ss[j]? =some R→x∈cM Q→x∈cM R→i<j→False:=fun i j Q R hi hj hxi hxj bw=>by
    have li:=(List.getElem?_eq_some_iff.1 hi);have lj:=(List.getElem?_eq_some_iff.1 hj);refine pw i j (by simpa using li.1) (by simpa using lj.1) bw x ?_ x ?_ rfl
    ·rw[List.getElem_map,li.2];exact hxi
    ·rw[List.getElem_map,lj.2];exact hxj
   rcases Nat.lt_trichotomy i j with bw|heq|bw
   ·exact(key i j Q R hi hj hxi hxj bw).elim
   ·exact heq
   ·exact(key j i R Q hj hi hxj hxi bw).elim
  have dis:∀x,x∈cM S0→∀(i:Nat) (Q:Ft),Ss[i]? =some Q→x∈cM Q→False:=fun x h1 i Q h2 h3=>by
   refine(List.nodup_append.1 Ap).2.2 x h1 x ?_ rfl;obtain⟨p,hp1,rfl⟩:=List.mem_map.1 h3;exact List.mem_map.2 ⟨p,List.mem_flatten.2 ⟨Q,List.mem_of_getElem? h2,hp1⟩,rfl⟩
  have inm:∀(x i:Nat) (Q:Ft),Ss[i]? =some Q→x∈cM Q→x∈cM (S m0):=fun x i Q h1 h2=>by
   obtain⟨p,hp1,rfl⟩:=List.mem_map.1 h2;exact List.mem_map.2 ⟨p,inS i Q h1 p hp1,rfl⟩
  have in0:∀x,x∈cM S0→x∈cM (S m0):=fun x hx=>hpm.mem_iff.2 (List.mem_append_left _ hx);rcases mh n1 z1 h1 with⟨rfl,_⟩|⟨a1,a2,a3⟩|⟨i,Q,l,rfl,a1,_,_⟩<;>rcases mh n2 z2 h2 with⟨rfl,_⟩|⟨b1,b2,b3⟩|⟨j,R,l',rfl,b1,_,_⟩
  ·rfl
  ·rw[s0]at k1;rw[s1 _ b1 b2]at k2;exact absurd (K.ff _ _ _ _ x hl b3 (in0 x k1) k2).symm b2
  ·rw[s0]at k1;rw[s2,b1]at k2;exact(dis x k1 j R b1 k2).elim
  ·rw[s1 _ a1 a2]at k1;rw[s0]at k2;exact absurd (K.ff _ _ _ _ x a3 hl k1 (in0 x k2)) a2
  ·rw[s1 _ a1 a2]at k1;rw[s1 _ b1 b2]at k2;exact K.ff _ _ _ _ x a3 b3 k1 k2
  ·rw[s1 _ a1 a2]at k1;rw[s2,b1]at k2;exact absurd (K.ff _ _ _ _ x a3 hl k1 (inm x j R b1 k2)) a2
  ·rw[s2,a1]at k1;rw[s0]at k2;exact(dis x k2 i Q a1 k1).elim
  ·rw[s2,a1]at k1;rw[s1 _ b1 b2]at k2;exact absurd (K.ff _ _ _ _ x hl b3 (inm x i Q a1 k1) k2).symm b2
  ·rw[s2,a1]at k1;rw[s2,b1]at k2;rw[idx i j Q R x a1 b1 k1 k2]
 ·obtain⟨p,hp1,rfl⟩:=List.mem_map.1 hx;rcases YH n y hn p hp1 with⟨_,_,h3,h4⟩|h3
  ·exact K.eG n y _ h4 (eJ h3)
  ·exact K.eG m0 _ _ hl (eJ h3)
 ·rcases YH n y hn _ hx with⟨_,_,h3,h4⟩|h3
  ·exact K.apart n y x b h4 h3 hb
  ·exact K.apart m0 _ x b hl h3 hb
 ·by_cases hc:n<c
  ·omega
  ·unfold p6 at hn;rw[if_neg hc]at hn;have:=(List.getElem?_eq_some_iff.1 hn).1;have:=N.l2;omega
 ·have:=H.vo.1;omega
 ·exact H.vo.2.1 k l hk (hA k l (Nat.lt_of_lt_of_le hk H.vo.1) hl)
 ·exact hB k b (H.vo.2.2 k b hk hb)
theorem Mem.share (H:Mem X ρ F o c h) (m:Nat):∃F',Mem X ρ F' (jK o m) c h∧(∀t v,VR c ρ F h t v→VR c ρ F' h t v)∧(∀b,F b→F' b)∧
 ∀z w es v,look o m=some (.arr z w es)→VR c ρ F h (.tk m) v→VR c ρ F' h (.sl z es false) v:=by
 unfold jK;split
 ·rename_i z w es hl;obtain⟨S,K⟩:=H.ex;have hO:=K.cC m _ hl;have YG:∀n y,n≠m→look (fu o m (.arr z false es)) n=some y→look o n=some y:=fun n y bC hy=>by rwa [eQ,if_neg bC]at hy
  have hsf:∀y',look (fu o m (.arr z false es)) m=some y'→y'= .arr z false es:=fun y' hy=>by rw[eQ,if_pos rfl,hl]at hy;simp at hy;exact hy.symm
  cases hS:S m with
  |nil=>
   rw[hS]at hO;cases hO with
   |nil hb hz=>
    obtain⟨M,hm⟩:=H.change K (F':=F) (ρ':=ρ) (c':=c) (h':=h) (o':=fu o m (.arr z false [])) (fun _=>False) m (.arr z false []) [] (Nat.le_refl _) H.wf (fun _ hf=>hf.elim) (fun _ _ _=>rfl) (fun _ _ _ h=>h) (fun _ _=>rfl) (fun _ h=>h) (fun _ h hn=>absurd h hn) (Nat.le_refl _) (fun _ _ _ h=>h) (fun _ _ h=>h) H.names
     (fun n y bC hy=>⟨YG n y bC hy,rfl,fun _ _ hf=>hf.elim⟩) hsf (.nil hb hz) (by simp[cM]) (by simp[cM]) (by simp)
    refine⟨F,M,hm,fun _ h=>h,fun z' w' cb v vw hv=>?_⟩;rw[hl]at vw;cases vw;cases hv with
    |tk hn sb ha h0=>
     rcases h0 _ hb with rfl |⟨b,o',cs,q1,q2,q3,q4,rfl⟩
     ·exact .nil rfl
     ·exact .sl q1 q2 q3 rfl (Nat.le_refl _) (fun h=>by cases h) (by simpa using q4) (by simp) (by simp) fun i j e t v h1=>by simp at h1
  |cons p Sq=>
   have hmn:=fun x hx=>K.eG m _ x hl hx;have Aa:∀(n:Nat) (y:TO) (x:Nat),n≠m→look o n=some y→x∈cM (S n)→x∈cM (S m)→False:=fun n y x bC hn hx hx2=>bC (K.ff n m y _ x hn hl hx hx2);rw[hS]at hO hmn Aa;cases hO with
   |arr hb hg hf ht eF hz hlen he iG hc hF=>
    rename_i b f t0 fy aS cs;have gW:h.rd b=some cs:=eu hf ht (az hg);have Z9:∀t v,VR c ρ F h t v→VR c ρ (fun x=>F x∨x=b) h t v:=fun t v=>VR.mono (Nat.le_refl _) (fun _ _ _ h=>h) (fun _ _ h=>h) (fun _ h=>.inl h) (fun _ _ _ h=>h);have MM:Mem X ρ (fun x=>F x∨x=b) (fu o m (.arr z false es)) c h∧∀t v,VR c ρ F h t v→VR c ρ (fun x=>F x∨x=b) h t v:=by
     refine H.change K (F':=fun x=>F x∨x=b) (ρ':=ρ) (c':=c) (h':=h) (o':=fu o m (.arr z false es)) (fun _=>False) m (.arr z false es) [(f,false)] (Nat.le_refl _) H.wf (fun _ hf=>hf.elim) (fun _ _ _=>rfl) (fun _ _ _ h=>h) (fun _ _=>rfl) (fun _ h=>.inl h)
      (fun b' cA hn=>?_) (Nat.le_refl _) (fun _ _ _ h=>h) (fun _ _ h=>h) H.names
      (fun n y bC hy=>⟨YG n y bC hy,rfl,fun _ _ hf=>hf.elim⟩) hsf (.arr hb hg hf ht eF hz hlen he iG (fun i j e t v q1 q2 q3=>Z9 _ _ (hc i j e t v q1 q2 q3)) fun _=>.inr rfl) (by simp[cM]) (fun x hx=>?_) (fun x b' hx=>by simp at hx)
     ·rcases cA with cA|rfl
      ·exact absurd cA hn
      ·refine⟨by rw[gW];rfl,fun n y x bC hy hx e=>?_,by simp,?_⟩
       ·rw[cy hg]at e;subst e;exact Aa n y _ bC (YG n y bC hy) (eJ hx) List.mem_cons_self
       ·rw[cy hg];exact(hmn _ List.mem_cons_self).2.2
     ·simp only[cM,List.map_cons,List.map_nil,List.mem_singleton]at hx;subst hx;obtain⟨q1,q2,q3⟩:=hmn _ List.mem_cons_self;exact⟨q1,q2,q3,fun n y bC hy hh=>Aa n y _ bC (YG n y bC hy) hh List.mem_cons_self⟩
    obtain⟨M,hm⟩:=MM;refine⟨_,M,hm,fun _ h=>.inl h,fun z' w' cb v vw hv=>?_⟩;rw[hl]at vw;cases vw;cases hv with
    |tk hn sb ha h0=>
     obtain⟨cap,h1,rfl⟩:=ha _ _ _ hb;exact .sl (.inr rfl) gW hz rfl h1 (fun h=>by cases h) (by rw[Nat.zero_add];omega) he iG fun i j e t v q1 q2 q3=>hm _ _ (hc i j e t v q1 q2 (by simpa using q3))
 ·rename_i uc;exact⟨F,H,fun _ _ h=>h,fun _ h=>h,fun z w es v hl=>absurd hl (uc z w es)⟩
end
def fO (ids:List (Option Nat)) (zf:Nat→Nat) (ρ:Gh):Gh:=fun n=>match ids[n]? with
 |some (some m)=>ρ m
 |some none=>some (.nil (zf n))
 |none=>none
section
variable {X:Cx} {ρ:Gh} {F:Nat→Prop} {o:Ob} {c:Nat} {h:ah} {ids:List (Option Nat)} {zf:Nat→Nat}
theorem um {n:Nat} {x:Option Nat} (h:ids[n]? =some x):n<ids.length:=(List.getElem?_eq_some_iff.1 h).1
def TxR (c:Nat) (ρ:Gh) (F:Nat→Prop) (h:ah) (c':Nat) (ρ':Gh):Tx→Tx→Prop
 | .v a,.v b=>∀x,VR c ρ F h a x→VR c' ρ' F h b x
 | .l a,.l b=>∀m,ee c ρ F h a m→ee c' ρ' F h b m
 |_,_=>True
theorem p9.rel (H:Mem X ρ F o c h) {a b:Tx} (L:p9 ids o a b):TxR c ρ F h ids.length (fO ids zf ρ) a b:=by
 induction L with
 |s hv=>intro x hx;obtain rfl:=hv.eq;cases hx with|s hp=>exact .s hp
 |sl hz hf he=>
  intro x hx;obtain rfl:=he.eq;simp only[Bool.or_eq_true,beq_iff,Bool.not_eq_true']at hz hf;cases hx with
  |nil he=>exact .nil he
  |sl h1 h2 h3 h4 h5 h6 h7 h8 h9 hc=>
   rcases hz with rfl |rfl
   ·refine .sl h1 h2 h3 h4 h5 (fun h=>h6 ?_) h7 h8 h9 fun i j e t v q1 q2 q3=>(hc i j e t v q1 q2 q3).eo (h9 e (List.mem_of_getElem? q1) t (List.mem_of_getElem? q2));rcases hf with hf|hf
    ·rw[hf]at h;cases h
    ·exact hf
   ·omega
 |new hi=>
  intro x hx;cases hx with
  |nil he=>exact .tk (um hi) rfl (fun b z len hx=>by simp[fO,hi]at hx) (fun z hx=>.inl rfl)
  |sl h1 h2 h3=>omega
 |tk hi=>
  intro x hx;cases hx with
  |tk hn sb ha h0=>exact .tk (um hi) sb (fun b z len hx=>ha b z len (by simpa[fO,hi]using hx)) (fun z hx=>h0 z (by simpa[fO,hi]using hx))
 |pv hi he=>
  intro x hx;obtain rfl:=he.eq;cases hx with
  |pv hn sb ha h0=>exact .pv (um hi) sb (fun b z len hx=>ha b z len (by simpa[fO,hi]using hx)) (fun z hx=>h0 z (by simpa[fO,hi]using hx))
 |look hl he=>
  intro x hx;obtain rfl:=he.eq;obtain⟨S,K⟩:=H.ex;cases hx with
  |tk hn sb ha h0=>
   have hO:=K.cC _ _ hl;generalize S _=Sm at hO;cases hO with
   |nil hb hz=>
    rcases h0 _ hb with rfl |⟨b,o',cs,q1,q2,q3,q4,rfl⟩
    ·exact .nil rfl
    ·exact .sl q1 q2 q3 rfl (Nat.le_refl _) (fun h=>by cases h) (by simpa using q4) (by simp) (by simp) fun i j e t v h1=>by simp at h1
   |arr hb hg hf ht eF hz hlen he iG hc hF=>
    obtain⟨cap,h1,rfl⟩:=ha _ _ _ hb
    exact .sl (hF rfl) (eu hf ht (az hg)) hz rfl h1 (fun h=>by cases h) (by rw[Nat.zero_add];omega) he iG
     fun i j e t v q1 q2 q3=>(hc i j e t v q1 q2 (by simpa using q3)).eo (iG e (List.mem_of_getElem? q1) t (List.mem_of_getElem? q2))
 |ptr hi=>intro x hx;cases hx with|ptr hb=>exact .ptr (by simpa[fO,hi]using hb)
 |ep he=>
  intro x hx;obtain rfl:=he.eq;cases hx with
  |ep h1 h2 h3 h4 hc=>exact .ep h1 h2 h3 h4 fun j t v q1 q2=>(hc j t v q1 q2).eo (h4 t (List.mem_of_getElem? q1))
 |mp hi=>intro x hx;cases hx with|mp hb=>exact .mp (by simpa[fO,hi]using hb)
 |bg hi he=>intro x hx;obtain rfl:=he.eq;cases hx with|bg hb=>exact .bg (by simpa[fO,hi]using hb)
 |agg _ ih=>intro x hx;obtain⟨a',rfl,h1⟩:=hx.fM;exact .g7 (ih _ h1)
 |cB _ ih=>intro x hx;obtain⟨a',rfl,h1⟩:=hx.vm;exact .jj (ih _ h1)
 |oP _ ih=>intro x hx;cases hx with|oP zc=>exact .oP (ih _ zc)
 |dg _ _ Eh Ei=>
  intro x hx;cases hx with
  |dg hs ha ht hk=>
   have q1:=Eh _ ⟨by rw[Array.length_toList];exact hs,fun i t v q1 q2=>ha i t v q1 (by simpa using q2)⟩;have q2:=Ei _ ⟨by rw[Array.length_toList];exact ht,fun i t v q1 q2=>hk i t v q1 (by simpa using q2)⟩;exact .dg (by have:=q1.1;rwa [Array.length_toList]at this) (fun i t v r1 r2=>q1.2 i t v r1 (by simpa using r2)) (by have:=q2.1;rwa [Array.length_toList]at this) (fun i t v r1 r2=>q2.2 i t v r1 (by simpa using r2))
 |j=>intro x _;exact .j _
 |nil=>intro m hm;rw[hm.bU];exact .nil
 |cons _ _ Eh Ei=>intro m hm;obtain⟨v,m',rfl,h1,h2⟩:=hm.aY;exact .cons (Eh _ h1) (Ei _ h2)
theorem pg (H:Mem X ρ F o c h) (v v':TV) (x:Value) (L:leV ids o v v') (hv:VR c ρ F h v x):VR ids.length (fO ids zf ρ) F h v' x:=p9.rel H L x hv
theorem Hn (H:Mem X ρ F o c h) (l l':List TV) (m:List Value) (L:aec ids o l l') (hv:ee c ρ F h l m):ee ids.length (fO ids zf ρ) F h l' m:=p9.rel H L m hv
theorem fE {z:Nat}:∀{es:List (List TV)} {i:Nat} {e:List TV},(∀e∈es,e.length=z)→es[i]? =some e→(es.flatten.drop (i*z)).take z=e∧(i+1)*z≤es.flatten.length
 |[],i,e,_,h=>by simp at h
 |a::l,0,e,hz,h=>by
  simp at h;subst h;have:=hz a List.mem_cons_self;simp[this]
 |a::l,i+1,e,hz,h=>by
  have ha:=hz a List.mem_cons_self;obtain⟨h1,h2⟩:=fE (es:=l) (i:=i) (fun e he=>hz e (List.mem_cons_of_mem _ he)) (by simpa using h);have e1:(i+1)*z=a.length+i*z:=by rw[ha,Nat.add_mul];omega
  refine⟨?_,?_⟩
  ·rw[List.flatten_cons,e1,List.drop_append,List.drop_eq_nil_of_le om];simpa using h1
  ·rw[List.flatten_cons,List.length_append];have e2:(i+1+1)*z=a.length+(i+1)*z:=by rw[ha,Nat.add_mul (i+1)];omega
   omega
theorem kj {z:Nat}:∀{es:List (List TV)} {i:Nat} {e:List TV},(∀e∈es,e.length=z)→i<es.length→(es.set i e).flatten=es.flatten.take (i*z)++(e++(es.flatten.drop (i*z)).drop z)
 |[],i,e,_,h=>by simp at h
 |a::l,0,e,hz,h=>by
  have:=hz a List.mem_cons_self;subst this;simp
 |a::l,i+1,e,hz,h=>by
  have ha:=hz a List.mem_cons_self;have ih:=kj (es:=l) (i:=i) (e:=e) (fun e he=>hz e (List.mem_cons_of_mem _ he)) (by simpa using h);have e1:(i+1)*z=a.length+i*z:=by rw[ha,Nat.add_mul];omega
  rw[List.set_cons_succ,List.flatten_cons,List.flatten_cons,ih,e1,List.take_length_add_append,List.drop_length_add_append,List.append_assoc]
theorem db.aen {base:Nat} {S V:Ft} {l l2:List TV} {m:List Value} (H:db c ρ F h base S l m) (p n:Nat) (hf:∀S2,db c ρ F h base S2 ((l.drop p).take n) ((m.drop p).take n)→∃S3,db c ρ F h base S3 l2 ((m.drop p).take n)∧S3.Perm (S2++V)):
 ∃S',db c ρ F h base S' (l.take p++(l2++(l.drop p).drop n)) m∧S'.Perm (S++V):=by
 obtain⟨S1,S2,S3,rfl,h1,h2,h3⟩:=H.part p n;obtain⟨S4,h4,h5⟩:=hf S2 h2;refine⟨S1++(S4++S3),?_,?_⟩
 ·have:=h1.join (h4.join h3)
  rwa [List.take_append_drop,List.take_append_drop]at this
 ·refine((h5.append_right S3).append_left S1).trans ?_;rw[List.append_assoc,List.append_assoc,List.append_assoc];exact(((List.perm_append_comm (l₁:=V) (l₂:=S3)).append_left S2)).append_left S1
theorem db.Kg {base:Nat} {S:Ft} {l:List TV} {m:List Value} (H:db c ρ F h base S l m):(∀t∈l,nV t=true)→CR F h base S (.cs l m):=by
 induction H with
 |nil=>intro _;exact .nil
 |vr hv _ ih=>
  rename_i t v l m _;intro hc;have h1:=hc t List.mem_cons_self;have h2:=ih fun t ht=>hc t (List.mem_cons_of_mem _ ht);have hf:M.fz t=true:=by
   unfold nV at h1;split at h1
   ·cases hv
   ·exact h1
  exact .cons (S:=[]) (.fz hf (hv.eo hf)) h2
 |cl hv _ ih=>intro hc;exact .cons hv (ih fun t ht=>hc t (List.mem_cons_of_mem _ ht))
theorem jk.Kg {base kd:Nat} {S:Ft} {l:List (Value×TV)} {m:List MapEntry} (H:jk c ρ F h base kd S l m):(∀e∈l,∀t∈aF e.2,nV t=true)→CR F h base S (.es kd l m):=by
 induction H with
 |nil=>intro _;exact .Oi
 |cons hk ji ha hv _ ih=>intro hc;exact .CW hk ji ha (hv.Kg (hc _ List.mem_cons_self)) (ih fun e he=>hc e (List.mem_cons_of_mem _ he))
theorem db.conv {base c':Nat} {ρ':Gh} {S:Ft} {l:List TV} {m:List Value} (H:db c ρ F h base S l m) (hc:∀t∈l,nV t=true):db c' ρ' F h base S l m:=db.uk (H.Kg hc) _ _ rfl
theorem jk.conv {base kd c':Nat} {ρ':Gh} {S:Ft} {l:List (Value×TV)} {m:List MapEntry} (H:jk c ρ F h base kd S l m) (hc:∀e∈l,∀t∈aF e.2,nV t=true):jk c' ρ' F h base kd S l m:=jk.uk (H.Kg hc) _ _ _ rfl
theorem jk.put {base kd c':Nat} {ρ':Gh} {k:Value} {v v1:TV} {V:Ft} (ha:dF v=dF v1) (hf:∀S2 (x:Value),db c ρ F h base S2 (aF v) x.cells.toList→∃S3,db c' ρ' F h base S3 (aF v1) x.cells.toList∧S3.Perm (S2++V)):
 ∀{es:List (Value×TV)} {S:Ft} {ev:List MapEntry},(∀e∈es,∀t∈aF e.2,nV t=true)→jk c ρ F h base kd S (dU es k v) ev→∃S',jk c' ρ' F h base kd S' (dU es k v1) ev∧S'.Perm (S++V):=by
 have one:∀{l:List (Value×TV)} {S:Ft} {ev:List MapEntry},(∀e∈l,∀t∈aF e.2,nV t=true)→jk c ρ F h base kd S ((k,v)::l) ev→∃S',jk c' ρ' F h base kd S' ((k,v1)::l) ev∧S'.Perm (S++V):=by
  intro l S ev cH H;cases H with
  |cons hk ji zN hv hl=>
   obtain⟨S3,h1,h2⟩:=hf _ _ hv;refine⟨_,.cons hk ji (ha.symm.trans zN) h1 (hl.conv cH),?_⟩;refine(h2.append_right _).trans ?_;rw[List.append_assoc,List.append_assoc];exact List.perm_append_comm.append_left _
 intro es
 induction es with
 |nil=>intro S ev _ H;exact one (by simp) H
 |cons e es ih=>
  intro S ev cH H;unfold dU at H ⊢;have aeo:=fun e' Gx=>cH e' (List.mem_cons_of_mem _ Gx);cases hq:tf k e.1 with
  |true=>rw[hq]at H;exact one aeo H
  |false=>
   rw[hq]at H;cases H with
   |cons hk ji zN hv hl=>
    obtain⟨S',h1,h2⟩:=ih aeo hl;refine⟨_,.cons hk ji zN (hv.conv (cH _ List.mem_cons_self)) h1,?_⟩;rw[List.append_assoc];exact h2.append_left _
theorem Aq {k:Value} {v:TV}:∀{es:List (Value×TV)} {e:Value×TV},e∈dU es k v→e=(k,v)∨e∈es
 |[],e,h=>by simp[dU]at h;exact .inl h
 |a::l,e,h=>by
  unfold dU at h;split at h
  ·rcases List.mem_cons.1 h with rfl |h
   ·exact .inl rfl
   ·exact .inr (List.mem_cons_of_mem _ h)
  ·rcases List.mem_cons.1 h with rfl |h
   ·exact .inr List.mem_cons_self
   ·rcases Aq h with h|h
    ·exact .inl h
    ·exact .inr (List.mem_cons_of_mem _ h)
def LiR (X:Cx) (ρ:Gh) (F:Nat→Prop) (_:Ob) (c:Nat) (h:ah) (S:Nat→Ft) (U:List Nat):Li→Prop
 | .c t y=>∀S0 v,db c ρ F h X.base S0 [t] [v]→∃S1,CR F h X.base S1 (.c (.own y) v)∧S1.Perm (S0++U.flatMap S)
 | .k l m=>∀S0 vs,db c ρ F h X.base S0 l vs→∃S1,CR F h X.base S1 (.cs m vs)∧S1.Perm (S0++U.flatMap S)
 | .b q y=>∀yo n S0 l,q=some yo→OR c ρ F h X.base n S0 yo→ρ n=some l→∃S1,CR F h X.base S1 (.o y l)∧S1.Perm (S0++U.flatMap S)
 | .q op oQ=>∀es z cs S0,(∀e∈es,e.length=z)→(∀e∈es,∀t∈e,nV t=true)→(∀p∈op,p.1<es.length∧p.2.length=z)→db c ρ F h X.base S0 (c8 es op).flatten cs→
  ∃S1,db c ρ F h X.base S1 (c8 es oQ).flatten cs∧S1.Perm (S0++U.flatMap S)∧(∀e∈c8 es oQ,e.length=z∧∀t∈e,nV t=true)∧(c8 es oQ).length=es.length
 | .m op oQ=>∀es kd ev S0,(∀e∈es,∀t∈aF e.2,nV t=true)→jk c ρ F h X.base kd S0 (Od es op) ev→∃S1,jk c ρ F h X.base kd S1 (Od es oQ) ev∧S1.Perm (S0++U.flatMap S)∧∀e∈Od es oQ,∀t∈aF e.2,nV t=true
theorem db.Kh {base:Nat} {S0:Ft} {t:TV} {v:Value} (H:db c ρ F h base S0 [t] [v]) (hp:eX t=true):S0=[]∧VR c ρ F h t v:=by
 obtain⟨h1,h2⟩:=H.vrs (fun t v hv hf=>hv.eo hf) (by simpa using hp);exact⟨h2,h1.head⟩
theorem Ol (y:TO) {m:Nat} {l:Loc} {v:Value} (hv:VR c ρ F h (G8 y m) v) (hl:ρ m=some l):VR 1 (fun _=>some l) F h (G8 y 0) v:=by
 cases y with
 |cells cs=>cases hv with|ptr hb=>exact .ptr (hl.symm.trans hb)
 |map kd es=>cases hv with|mp hb=>exact .mp (hl.symm.trans hb)
 |fp kd es op=>cases hv with|mp hb=>exact .mp (hl.symm.trans hb)
 |arr z w es=>cases hv with|tk hn h1 ha h0=>exact .tk om h1 (fun b z len hx=>ha b z len (hl.trans hx)) (fun z hx=>h0 z (hl.trans hx))
 |cF z es op=>cases hv with|tk hn h1 ha h0=>exact .tk om h1 (fun b z len hx=>ha b z len (hl.trans hx)) (fun z hx=>h0 z (hl.trans hx))
 |iA ks=>cases hv with|bg hb=>exact .bg (hl.symm.trans hb)
theorem OR.loc {base n:Nat} {S:Ft} {y:TO} (H:OR c ρ F h base n S y):∃l,ρ n=some l:=by cases H<;>exact⟨_,by assumption⟩
theorem jL.E5 {U:List Nat} {i:Li} (L:jL o U i):∀l m,i= .k l m→l.length=m.length∧∀t∈m,nV t=true:=by
 induction L with
 |aed=>rintro l m e;cases e;exact⟨rfl,by simp⟩
 |aee _ _ _ ih=>
  rintro l m e;cases e;obtain⟨h1,h2⟩:=ih _ _ rfl;refine⟨by simp[h1],fun t ht=>?_⟩;rcases List.mem_cons.1 ht with rfl |ht
  ·rfl
  ·exact h2 t ht
 |kfz _ hf _ ih=>
  rintro l m e;cases e;obtain⟨h1,h2⟩:=ih _ _ rfl;refine⟨by simp[h1],fun t ht=>?_⟩;rcases List.mem_cons.1 ht with rfl |ht
  ·unfold nV;split<;>first|rfl |exact hf
  ·exact h2 t ht
 |_=>rintro l m e;cases e
theorem CR.fzs {base:Nat}:∀{l:List TV} {m:List Value},ee 0 wD F h l m→(∀t∈l,M.fz t=true)→CR F h base [] (.cs l m)
 |[],m,H,_=>by rw[H.bU];exact .nil
 |t::l,m,H,hf=>by
  obtain⟨v,m',rfl,h1,h2⟩:=H.aY;exact .cons (S:=[]) (.fz (hf t List.mem_cons_self) h1) (CR.fzs h2 fun t ht=>hf t (List.mem_cons_of_mem _ ht))
theorem Om {v:TV} {x:Value} (hf:G7 v=true) (hv:VR c ρ F h v x):dF v=gp x∧(∀t∈aF v,fz t=true)∧ee 0 wD F h (aF v) x.cells.toList:=by
 have h0:=hv.zb (c':=0) (ρ':=wD) hf;have one:(∀cs,v≠ .agg cs)→dF v=gp x∧(∀t∈aF v,fz t=true)∧ee 0 wD F h (aF v) x.cells.toList:=by
  intro CM;have e1:aF v=[v]:=by cases v<;>first|rfl |exact absurd rfl (CM _)
  have e2:fz v=true:=by cases v<;>first|exact hf|exact absurd rfl (CM _)
  have e3:dF v=false:=by cases v<;>first|rfl |exact absurd rfl (CM _)
  have hx:∀a,x≠ .agg a:=by
   rintro a rfl;cases h0 with
   |j=>simp[fz]at e2
   |s hp=>simp[ay]at hp
   |tk _ h1=>simp[Oh]at h1
   |sv _ h1=>simp[Oh]at h1
   |pv _ h1=>simp[Oh]at h1
   |wp _ h1=>simp[ptV]at h1
   |agg=>exact CM _ rfl
  have e4:gp x=false:=by cases x<;>first|rfl |exact absurd rfl (hx _)
  have e5:x.cells= #[x]:=by cases x<;>first|rfl |exact absurd rfl (hx _)
  rw[e1,e3,e4,e5];exact⟨rfl,by simpa using e2,.cons h0 .nil⟩
 cases v with
 |agg cs=>
  obtain⟨a,rfl,h1⟩:=h0.fM;exact⟨rfl,fun t ht=>List.all_eq_true.1 hf t ht,h1⟩
 |_=>exact one (by intro cs e;cases e)
theorem CR.aaa {base kd:Nat}:∀{es:List (Value×TV)} {ev:List MapEntry},es.length=ev.length→(∀(i:Nat) e e',es[i]? =some e→ev[i]? =some e'→e'.key=e.1∧(0<kd∧bn e.1=kd)∧G7 e.2=true∧VR c ρ F h e.2 e'.val)→CR F h base [] (.es kd es ev)
 |[],[],_,_=>.Oi
 |[],_::_,h,_=>by simp at h
 |_::_,[],h,_=>by simp at h
 |e::es,e'::ev,hl,hc=>by
  obtain⟨h1,h2,h3,h4⟩:=hc 0 e e' rfl rfl;obtain⟨k1,k2,k3⟩:=Om h3 h4;exact .CW (S:=[]) h1 h2 k1 (CR.fzs k3 k2) (CR.aaa (by simpa using hl) fun i x x' q1 q2=>hc (i+1) x x' (by simpa using q1) (by simpa using q2))
theorem iP {z:Nat}:∀{es:List (List TV)} {cs:List Value},cs.length=es.length*z→(∀e∈es,e.length=z)→(∀(i j:Nat) e t v,es[i]? =some e→e[j]? =some t→cs[i*z+j]? =some v→VR c ρ F h t v)→ee c ρ F h es.flatten cs
 |[],cs,hl,_,_=>by
  have:cs=[]:=List.length_eq_zero_iff.1 (by simpa using hl);subst this;exact .nil
 |e::es,cs,hl,he,hc=>by
  have hz:=he e List.mem_cons_self;have e1:cs=cs.take z++cs.drop z:=(List.take_append_drop _ _).symm;rw[List.length_cons,Nat.add_mul]at hl;rw[e1,List.flatten_cons];refine ee.append ⟨by simp;omega,fun j t v q1 q2=>?_⟩ (iP (z:=z) (by simp;omega) (fun e Gx=>he e (List.mem_cons_of_mem _ Gx)) fun i j e t v q1 q2 q3=>?_)
  ·rw[List.getElem?_take]at q2;split at q2
   ·exact hc 0 j e t v rfl q1 (by rw[←q2];congr 1;omega)
   ·cases q2
  ·rw[List.getElem?_drop]at q3;exact hc (i+1) j e t v (by simpa using q1) q2 (by rw[←q3];congr 1;rw[Nat.add_mul];omega)
theorem Zl.len {x y:List TV} (H:Zl x y):y.length=x.length:=by
 induction H with
 |nil=>rfl
 |same _ ih=>simp[ih]
 |zero _ ih=>simp[ih]
theorem Zl.fz {x y:List TV} (H:Zl x y):(∀t∈x,M.fz t=true)→∀t∈y,M.fz t=true:=by
 induction H with
 |nil=>exact fun h=>h
 |same _ ih=>
  intro h t ht;rcases List.mem_cons.1 ht with rfl |ht
  ·exact h _ List.mem_cons_self
  ·exact ih (fun t ht=>h t (List.mem_cons_of_mem _ ht)) t ht
 |zero _ ih=>
  intro h t ht;rcases List.mem_cons.1 ht with rfl |ht
  ·rfl
  ·exact ih (fun t ht=>h t (List.mem_cons_of_mem _ ht)) t ht
theorem Zl.vr {x y:List TV} (H:Zl x y):∀(j:Nat) t',y[j]? =some t'→∃t,x[j]? =some t∧∀v,VR c ρ F h t v→VR c ρ F h t' v:=by
 induction H with
 |nil=>intro j t' h;simp at h
 |same _ ih=>
  intro j t' h;cases j with
  |zero=>simp at h;subst h;exact⟨_,rfl,fun _ h=>h⟩
  |succ j=>simpa using ih j t' (by simpa using h)
 |zero _ ih=>
  intro j t' h;cases j with
  |zero=>
   simp at h;subst h;refine⟨_,rfl,fun v hv=>?_⟩;cases hv with
   |nil=>exact .nil rfl
   |sl _ _ hz=>exact absurd hz (Nat.lt_irrefl 0)
  |succ j=>simpa using ih j t' (by simpa using h)
theorem jL.rel (H:Mem X ρ F o c h) {S:Nat→Ft} (K:MO X ρ F o c h S) {U:List Nat} {i:Li} (L:jL o U i):LiR X ρ F o c h S U i∧∀u∈U,∃y,look o u=some y:=by
 have named:∀{U:List Nat} {m:Nat} {y:TO},eX (G8 y m)=true→(LiR X ρ F o c h S U (.b (look o m) y)∧∀u∈U,∃y,look o u=some y)→(∃y0,look o m=some y0)→LiR X ρ F o c h S (m::U) (.c (G8 y m) y)∧∀u∈m::U,∃y,look o u=some y:=by
  rintro U m y hp ⟨Eh,Ei⟩ ⟨y0,hl⟩;refine⟨fun S0 v hv=>?_,fun u hu=>?_⟩
  ·obtain⟨rfl,zc⟩:=hv.Kh hp;have hO:=K.cC m y0 hl;obtain⟨l,eY⟩:=hO.loc;obtain⟨S1,h1,h2⟩:=Eh y0 m _ l hl hO eY;exact⟨S1,.own h1 (Ol y zc eY),by simpa using h2⟩
  ·rcases List.mem_cons.1 hu with rfl |hu
   ·exact⟨y0,hl⟩
   ·exact Ei u hu
 have wF:∀{U:List Nat} {m:Nat} {y:TO},jL o U (.b (look o m) y)→∃y0,look o m=some y0:=by
  intro U m y hL;generalize hq:look o m=q at hL;cases q with
  |none=>cases hL
  |some y0=>exact⟨y0,rfl⟩
 have p0:∀(S0:Ft),S0.Perm (S0++([]:List Nat).flatMap S):=fun S0=>by simp
 induction L with
 |same hy=>obtain rfl:=hy.eq;exact⟨fun S0 v hv=>⟨S0,by
  cases hv with
  |vr hv _=>cases hv
  |cl hv hl=>cases hl;simpa using hv,p0 S0⟩,by simp⟩
 |ptr hL ih=>exact named rfl ih (wF hL)
 |mp hL ih=>exact named (y:=.map _ _) rfl ih (wF hL)
 |mpq hL ih=>exact named (y:=.fp _ _ _) rfl ih (wF hL)
 |tk hL ih=>exact named (y:=.arr _ _ _) rfl ih (wF hL)
 |tkq hL ih=>exact named (y:=.cF _ _ _) rfl ih (wF hL)
 |bg hl hL ih=>obtain rfl:=hl.eq;exact named (y:=.iA _) rfl ih (wF hL)
 |ET h0=>
  refine⟨fun S0 v hv=>?_,by simp⟩;obtain⟨rfl,zc⟩:=hv.Kh rfl;refine⟨[],.own (.ET (bc.1 h0)) ?_,p0 _⟩;cases zc with
  |nil=>exact .tk om rfl (fun b z len hx=>by cases hx) (fun z hx=>.inl rfl)
  |sl h1 h2 h3=>omega
 |ib h0=>
  refine⟨fun S0 v hv=>?_,by simp⟩;obtain⟨rfl,zc⟩:=hv.Kh rfl;refine⟨[],.own (.ib (bc.1 h0)) ?_,p0 _⟩;cases zc with
  |nil=>exact .tk om rfl (fun b z len hx=>by cases hx) (fun z hx=>.inl rfl)
  |sl h1 h2 h3=>omega
 |cells _ ih=>
  refine⟨fun yo n S0 l e hO eY=>?_,ih.2⟩;cases e;cases hO with
  |cells hb hg ht hc=>
   rw[hb]at eY;cases eY;obtain⟨S1,h1,h2⟩:=ih.1 _ _ hc;exact⟨_,.cells hg ht h1,h2.cons _⟩
 |map he=>
  obtain rfl:=he.eq;refine⟨fun yo n S0 l e hO eY=>?_,by simp⟩;cases e;cases hO with
  |map hb hg hl hc bz=>
   rw[hb]at eY;cases eY;exact⟨_,.map hg hl (fun i e e' q1 q2=>let⟨r1,r2,r3,r4⟩:=hc i e e' q1 q2;⟨r1,r2,r3,r4.zb r3⟩) bz,p0 _⟩
 |VM he=>
  obtain rfl:=he.eq;refine⟨fun yo n S0 l e hO eY=>?_,by simp⟩;cases e;cases hO with
  |map hb hg hl hc bz=>
   rw[hb]at eY;cases eY;exact⟨_,.fp hg (CR.aaa hl hc) bz,p0 _⟩
 |arr he=>
  obtain rfl:=he.eq;refine⟨fun yo n S0 l e hO eY=>?_,by simp⟩;cases e;cases hO with
  |nil hb hz=>rw[hb]at eY;cases eY;exact⟨_,.ET hz,p0 _⟩
  |arr hb hg hf ht eF hz hl he iG hc hF=>
   rw[hb]at eY;cases eY;exact⟨_,.arr hg hf ht eF hz hl he iG (fun i j e t v q1 q2 q3=>(hc i j e t v q1 q2 q3).eo (iG e (List.mem_of_getElem? q1) t (List.mem_of_getElem? q2))) hF,p0 _⟩
 |aio ha cA On=>
  rename_i z w a b l0 x y;have ea:=ha.eq;have eb:=cA.eq;refine⟨fun yo n S0 l e hO eY=>?_,by simp⟩;cases e;cases hO with
  |nil hb hz=>exact absurd ea (by simp)
  |arr hb hg hf ht eF hz hl he iG hc hF=>
   rw[hb]at eY;cases eY;have hlen:a.length=b.length:=by rw[ea,←eb];simp
   have hx:x∈a:=by rw[ea];simp
   have key:∀e'∈b,e'∈a∨e'=y:=fun e' Gx=>by
    rw[←eb]at Gx;rcases List.mem_append.1 Gx with q|q
    ·exact .inl (by rw[ea];exact List.mem_append_left _ q)
    ·exact .inr (by simpa using q)
   have aiz:∀(i j:Nat) e' t',b[i]? =some e'→e'[j]? =some t'→∃e t,a[i]? =some e∧e[j]? =some t∧∀v,VR c ρ F h t v→VR c ρ F h t' v:=fun i j e' t' q1 q2=>by
    rw[←eb]at q1;by_cases hi:i<l0.length
    ·rw[List.getElem?_append_left hi]at q1;exact⟨e',t',by rw[ea,List.getElem?_append_left hi];exact q1,q2,fun _ h=>h⟩
    ·rw[List.getElem?_append_right om]at q1;have hi0:i - l0.length=0:=by have:=(List.getElem?_eq_some_iff.1 q1).1;simp at this;omega
     rw[hi0]at q1;simp at q1;subst q1;obtain⟨t,q3,q4⟩:=On.vr j t' q2;exact⟨x,t,by rw[ea,List.getElem?_append_right om,hi0];rfl,q3,q4⟩
   have Ca:∀e∈b,∀t∈e,fz t=true:=fun e' Gx=>by
    rcases key e' Gx with q|rfl
    ·exact iG e' q
    ·exact On.fz (iG x hx)
   rw[hlen]at hl ⊢;exact⟨_,.arr hg hf ht eF hz hl (fun e' Gx=>by
    rcases key e' Gx with q|rfl
    ·exact he e' q
    ·rw[On.len];exact he x hx) Ca (fun i j e' t' v q1 q2 q3=>by
    obtain⟨e,t,r1,r2,r3⟩:=aiz i j e' t' q1 q2;exact(r3 v (hc i j e t v r1 r2 q3)).eo (Ca e' (List.mem_of_getElem? q1) t' (List.mem_of_getElem? q2))) hF,p0 _⟩
 |VO he=>
  obtain rfl:=he.eq;refine⟨fun yo n S0 l e hO eY=>?_,by simp⟩;cases e;cases hO with
  |nil hb hz=>rw[hb]at eY;cases eY;exact⟨_,.ib hz,p0 _⟩
  |arr hb hg hf ht eF hz hl he iG hc hF=>
   rw[hb]at eY;cases eY;refine⟨_,.cF hg hf ht eF hz hl he (CR.fzs (iP hl he fun i j e t v q1 q2 q3=>(hc i j e t v q1 q2 q3).eo (iG e (List.mem_of_getElem? q1) t (List.mem_of_getElem? q2))) fun t ht=>?_),p0 _⟩;obtain⟨e,h1,h2⟩:=List.mem_flatten.1 ht;exact iG e h1 t h2
 |cF hs he _ ih=>
  refine⟨fun yo n S0 l e hO eY=>?_,ih.2⟩;cases e;obtain rfl:=he.eq;cases hO with
  |ib hb hz=>rw[hb]at eY;cases eY;cases hs;exact⟨_,.ib hz,by
   obtain⟨S1,h1,h2,_⟩:=ih.1 [] 1 [] [] (by simp) (by simp) (by simp) .nil;cases h1;exact h2⟩
  |cF hb hg hf ht eF hz hl he cH kr hc=>
   rw[hb]at eY;cases eY;obtain⟨S1,h1,h2,h3,h4⟩:=ih.1 _ _ _ _ he cH kr hc;have:=CR.cF (S:=S1) hg hf ht eF hz (by rw[hl,h4]) (fun e he=>(h3 e he).1) (h1.Kg fun t ht=>by
    obtain⟨e,q1,q2⟩:=List.mem_flatten.1 ht;exact(h3 e q1).2 t q2)
   rw[h4]at this;exact⟨_,this,h2.cons _⟩
 |Of hs he pR _ ih=>
  refine⟨fun yo n S0 l e hO eY=>?_,ih.2⟩;cases e;obtain rfl:=he.eq;cases hO with
  |ib hb hz=>rw[hb]at eY;cases eY;cases hs;exact⟨_,.ET hz,by
   obtain⟨S1,h1,h2,_⟩:=ih.1 [] 1 [] [] (by simp) (by simp) (by simp) .nil;cases h1;exact h2⟩
  |cF hb hg hf ht eF hz hl he cH kr hc=>
   rw[hb]at eY;cases eY;obtain⟨S1,h1,h2,h3,h4⟩:=ih.1 _ _ _ _ he cH kr hc;have:=CR.cF (S:=S1) hg hf ht eF hz (by rw[hl,h4]) (fun e he=>(h3 e he).1) (h1.Kg fun t ht=>by
    obtain⟨e,q1,q2⟩:=List.mem_flatten.1 ht;exact(h3 e q1).2 t q2)
   rw[h4]at this;exact⟨_,this.Of pR,h2.cons _⟩
 |fp hs he _ ih=>
  refine⟨fun yo n S0 l e hO eY=>?_,ih.2⟩;cases e;obtain rfl:=he.eq;cases hO with
  |fp hb hg cH hc bz=>
   rw[hb]at eY;cases eY;obtain⟨S1,h1,h2,h3⟩:=ih.1 _ _ _ _ cH hc;exact⟨_,.fp hg (h1.Kg h3) bz,h2.cons _⟩
 |iA he=>
  obtain rfl:=he.eq;refine⟨fun yo n S0 l e hO eY=>?_,by simp⟩;cases e;cases hO with
  |iA hb hg=>rw[hb]at eY;cases eY;exact⟨_,.iA hg,p0 _⟩
 |aed=>exact⟨fun S0 vs hv=>by cases hv;exact⟨[],.nil,by simp⟩,by simp⟩
 |aee _ _ Eh Ei=>
  rename_i U1 U2 a y l m _ _;refine⟨fun S0 vs hv=>?_,fun u hu=>(List.mem_append.1 hu).elim (Eh.2 u) (Ei.2 u)⟩;have split:∃A B v oW,S0=A++B∧vs=v::oW∧db c ρ F h X.base A [a] [v]∧db c ρ F h X.base B l oW:=by
   cases hv with
   |vr h1 h2=>exact⟨[],_,_,_,rfl,rfl,.vr h1 .nil,h2⟩
   |cl h1 h2=>exact⟨_,_,_,_,rfl,rfl,by simpa using db.cl h1 .nil,h2⟩
  obtain⟨A,B,v,oW,rfl,rfl,h1,h2⟩:=split;obtain⟨A1,k1,k2⟩:=Eh.1 A v h1;obtain⟨B1,k3,k4⟩:=Ei.1 B oW h2;refine⟨A1++B1,.cons k1 k3,(k2.append k4).trans ?_⟩;rw[List.flatMap_append];simp only[List.append_assoc];refine List.Perm.append_left _ ?_;rw[←List.append_assoc,←List.append_assoc];exact List.perm_append_comm.append_right _
 |kfz hv hf _ ih=>
  rename_i U1 a b l m _;refine⟨fun S0 vs JE=>?_,ih.2⟩;have hpa:eX a=true:=by cases hv<;>first|rfl |simp[M.fz]at hf
  have split:∃v oW,vs=v::oW∧VR c ρ F h a v∧db c ρ F h X.base S0 l oW:=by
   cases JE with
   |vr h1 h2=>exact⟨_,_,rfl,h1,h2⟩
   |cl h1 h2=>
    cases h1 with
    |fz hf1 zc=>exact⟨_,_,rfl,zc.eo hf1,h2⟩
    |own=>simp[eX]at hpa
  obtain⟨v,oW,rfl,h1,h2⟩:=split;obtain⟨S1,k1,k2⟩:=ih.1 S0 oW h2;exact⟨S1,.cons (S:=[]) (.fz hf ((pg (zf:=fun _=>0) H _ _ _ hv h1).eo hf)) k1,k2⟩
 |q0=>exact⟨fun es z cs S0 hz cH _ hc=>⟨S0,hc,p0 S0,fun e he=>⟨hz e he,cH e he⟩,rfl⟩,by simp⟩
 |q1 hL ih=>
  rename_i U1 i a b;refine⟨fun es z cs S0 hz cH kr hc=>?_,ih.2⟩;obtain⟨k1,k2⟩:=kr (i,a) (by simp);simp only at k1 k2;obtain⟨f1,f2⟩:=hL.E5 _ _ rfl;have jZ:∀e∈es.set i a,e.length=z:=fun e he=>by
   rcases List.mem_or_eq_of_mem_set he with h1|rfl
   ·exact hz e h1
   ·exact k2
  obtain⟨r1,r2⟩:=fE jZ (i:=i) (e:=a) (by simp[k1]);obtain⟨S1,q1,q2⟩:=db.aen (l2:=b) (V:=U1.flatMap S) hc (i*z) z fun S2 h2=>by
   have e:((c8 es [(i,a)]).flatten.drop (i*z)).take z=a:=r1;rw[e]at h2;obtain⟨S3,h3,h4⟩:=ih.1 S2 _ h2;exact⟨S3,db.uk h3 _ _ rfl,h4⟩
  have e2:(c8 es [(i,b)]).flatten=(c8 es [(i,a)]).flatten.take (i*z)++(b++((c8 es [(i,a)]).flatten.drop (i*z)).drop z):=by
   have:=kj (e:=b) jZ (i:=i) (by simpa using k1);rw[List.set_set]at this;exact this
  rw[←e2]at q1;refine⟨S1,q1,q2,fun e he=>?_,by simp[c8]⟩;rcases List.mem_or_eq_of_mem_set he with h1|rfl
  ·exact⟨hz e h1,cH e h1⟩
  ·exact⟨om,f2⟩
 |q2 hik hL hR ih ihr=>
  rename_i U1 U2 i k a b a' b';refine⟨fun es z cs S0 hz cH kr hc=>?_,fun u hu=>(List.mem_append.1 hu).elim (ih.2 u) (ihr.2 u)⟩;obtain⟨k1,k2⟩:=kr (i,a) (by simp);obtain⟨l1,l2⟩:=kr (k,a') (by simp);simp only at k1 k2 l1 l2;obtain⟨f1,f2⟩:=hL.E5 _ _ rfl;have hc:db c ρ F h X.base S0 ((es.set k a').set i a).flatten cs:=hc;have jZ:∀e∈(es.set k a').set i a,e.length=z:=fun e he=>by
   rcases List.mem_or_eq_of_mem_set he with h1|rfl
   ·rcases List.mem_or_eq_of_mem_set h1 with h1|rfl
    ·exact hz e h1
    ·exact l2
   ·exact k2
  obtain⟨r1,r2⟩:=fE jZ (i:=i) (e:=a) (by simp[k1]);obtain⟨S1,q1,q2⟩:=db.aen (l2:=b) (V:=U1.flatMap S) hc (i*z) z fun S2 h2=>by
   have e:(((es.set k a').set i a).flatten.drop (i*z)).take z=a:=r1;rw[e]at h2;obtain⟨S3,h3,h4⟩:=ih.1 S2 _ h2;exact⟨S3,db.uk h3 _ _ rfl,h4⟩
  have e2:((es.set k a').set i b).flatten=((es.set k a').set i a).flatten.take (i*z)++(b++(((es.set k a').set i a).flatten.drop (i*z)).drop z):=by
   have:=kj (e:=b) jZ (i:=i) (by simpa using k1);rw[List.set_set]at this;exact this
  rw[←e2,List.set_comm _ _ (fun e=>hik e.symm)]at q1;obtain⟨S2,w1,w2,w3,w4⟩:=ihr.1 (es.set i b) z cs S1 (fun e he=>by
   rcases List.mem_or_eq_of_mem_set he with h1|rfl
   ·exact hz e h1
   ·omega) (fun e he=>by
   rcases List.mem_or_eq_of_mem_set he with h1|rfl
   ·exact cH e h1
   ·exact f2) (fun p hp=>by simp only[List.mem_singleton]at hp;subst hp;exact⟨by simpa using l1,l2⟩) q1
  have e4:c8 (es.set i b) [(k,b')]=c8 es [(i,b),(k,b')]:=List.set_comm _ _ hik;rw[e4]at w1 w3 w4;refine⟨S2,w1,?_,w3,by rw[w4];simp⟩;rw[List.flatMap_append,←List.append_assoc];exact w2.trans (q2.append_right _)
 |m0=>exact⟨fun es kd ev S0 cH hc=>⟨S0,hc,p0 S0,cH⟩,by simp⟩
 |m1 ha hL ih=>
  rename_i U1 k a b;refine⟨fun es kd ev S0 cH hc=>?_,ih.2⟩;obtain⟨f1,f2⟩:=hL.E5 _ _ rfl;obtain⟨S1,q1,q2⟩:=jk.put (c':=c) (ρ':=ρ) (V:=U1.flatMap S) ha (fun S2 x h2=>by
   obtain⟨S3,h3,h4⟩:=ih.1 S2 _ h2;exact⟨S3,db.uk h3 _ _ rfl,h4⟩) cH hc
  refine⟨S1,q1,q2,fun e he=>?_⟩;rcases Aq he with rfl |h1
  ·exact f2
  ·exact cH e h1
theorem yP.rel (H:Mem X ρ F o c h) {S:Nat→Ft} (K:MO X ρ F o c h S) {U:List Nat} {a b:List TV} (L:yP ids o U a b):∀{S0:Ft} {vs:List Value},db c ρ F h X.base S0 a vs→(∃S1,db ids.length (fO ids zf ρ) F h X.base S1 b vs∧S1.Perm (S0++U.flatMap S))∧∀u∈U,∃y,look o u=some y:=by
 induction L with
 |nil=>intro S0 vs hv;cases hv;exact⟨⟨[],.nil,by simp⟩,by simp⟩
 |own hL _ ih=>
  rename_i U1 U2 a y l m _;intro S0 vs hv;have split:∃A B v oW,S0=A++B∧vs=v::oW∧db c ρ F h X.base A [a] [v]∧db c ρ F h X.base B l oW:=by
   cases hv with
   |vr h1 h2=>exact⟨[],_,_,_,rfl,rfl,.vr h1 .nil,h2⟩
   |cl h1 h2=>exact⟨_,_,_,_,rfl,rfl,by simpa using db.cl h1 .nil,h2⟩
  obtain⟨A,B,v,oW,rfl,rfl,h1,h2⟩:=split;obtain⟨g1,g2⟩:=hL.rel H K;obtain⟨A1,k1,k2⟩:=g1 A v h1;obtain⟨⟨B1,k3,k4⟩,g3⟩:=ih h2;refine⟨⟨A1++B1,.cl k1 k3,(k2.append k4).trans ?_⟩,fun u hu=>(List.mem_append.1 hu).elim (g2 u) (g3 u)⟩;rw[List.flatMap_append];simp only[List.append_assoc];refine List.Perm.append_left _ ?_;rw[←List.append_assoc,←List.append_assoc];exact List.perm_append_comm.append_right _
 |v hV hp _ ih=>
  rename_i U1 a b l m _;intro S0 vs hv;cases hv with
  |vr h1 h2=>
   obtain⟨⟨S1,k1,k2⟩,k3⟩:=ih h2;exact⟨⟨S1,.vr (pg H _ _ _ hV h1) k1,k2⟩,k3⟩
  |cl h1 h2=>
   cases h1 with
   |fz hf1 zc=>
    obtain⟨⟨S1,k1,k2⟩,k3⟩:=ih h2;exact⟨⟨S1,.vr (pg H _ _ _ hV (zc.eo hf1)) k1,k2⟩,k3⟩
   |own=>simp[eX]at hp
theorem yP.len {U:List Nat} {a b:List TV} (L:yP ids o U a b):a.length=b.length:=by
 induction L with
 |nil=>rfl
 |own _ _ ih=>simp[ih]
 |v _ _ _ ih=>simp[ih]
theorem lQ:∀{ids:List (Option Nat)} {k m:Nat},iO c ids=true→ids[k]? =some (some m)→m<c
 |[],k,m,_,h=>by simp at h
 |none::l,k,m,hi,h=>by
  cases k with
  |zero=>simp at h
  |succ k=>exact lQ (ids:=l) hi (by simpa using h)
 |some m'::l,k,m,hi,h=>by
  simp only[iO,Bool.and_eq_true,bc]at hi;cases k with
  |zero=>simp at h;subst h;exact hi.1.1
  |succ k=>exact lQ (ids:=l) hi.2 (by simpa using h)
theorem ou:∀{ids:List (Option Nat)} {k k' m:Nat},iO c ids=true→ids[k]? =some (some m)→ids[k']? =some (some m)→k=k'
 |[],k,k',m,_,h,_=>by simp at h
 |none::l,k,k',m,hi,h,h'=>by
  cases k with
  |zero=>simp at h
  |succ k=>cases k' with
   |zero=>simp at h'
   |succ k'=>exact congrArg (· +1) (ou (ids:=l) hi (by simpa using h) (by simpa using h'))
 |some m'::l,k,k',m,hi,h,h'=>by
  simp only[iO,Bool.and_eq_true,bc,Bool.not_eq_true',List.contains_eq_mem]at hi;have hn:some m'∉l:=by simpa using hi.1.2
  cases k with
  |zero=>cases k' with
   |zero=>rfl
   |succ k'=>
    simp at h h';subst h;exact absurd (List.mem_of_getElem? h') hn
  |succ k=>cases k' with
   |zero=>
    simp at h h';subst h';exact absurd (List.mem_of_getElem? h) hn
   |succ k'=>exact congrArg (· +1) (ou (ids:=l) hi.2 (by simpa using h) (by simpa using h'))
theorem CZ:∀{n k:Nat} {ids:List (Option Nat)},pQ n k ids=true→∀i,i<n→ids[i]? =some (some (k+i))
 |0,k,ids,_,i,hi=>by omega
 |n+1,k,[],h,i,hi=>by simp[pQ]at h
 |n+1,k,none::l,h,i,hi=>by simp[pQ]at h
 |n+1,k,some m::l,h,i,hi=>by
  simp only[pQ,Bool.and_eq_true,beq_iff]at h;obtain⟨rfl,h2⟩:=h;cases i with
  |zero=>simp
  |succ i=>
   have:=CZ h2 i om;simp only[List.getElem?_cons_succ,this]
   congr 2;omega
def Oo:TO→Nat
 | .arr z _ _=>z
 | .cF z _ _=>z
 |_=>0
def Ki (o1:Ob) (n:Nat):Nat:=match look o1 n with|some y=>Oo y|none=>0
theorem iI {base z i:Nat} {S:Ft} {es:List (List TV)} {x:List TV} {cs:List Value} (hz:∀e∈es,e.length=z) (hi:i<es.length) (H:db c ρ F h base S (es.set i x).flatten cs):
 ∃S1 S2 S3 v1 v2 v3,S=S1++(S2++S3)∧cs=v1++(v2++v3)∧db c ρ F h base S1 (es.flatten.take (i*z)) v1∧db c ρ F h base S2 x v2∧db c ρ F h base S3 ((es.flatten.drop (i*z)).drop z) v3:=by
 rw[kj hz hi]at H;have h1:(es.flatten.take (i*z)).length=i*z:=by
  obtain⟨e,he⟩:∃e,es[i]? =some e:=⟨_,List.getElem?_eq_getElem hi⟩;have:=(fE hz he).2;rw[Nat.add_mul]at this;rw[List.length_take];omega
 obtain⟨S1,R,rfl,k1,k2⟩:=H.split (i*z);rw[List.take_append_of_le_length om,List.take_of_length_le om]at k1;rw[List.drop_append,List.drop_eq_nil_of_le om,h1,Nat.sub_self,List.drop_zero,List.nil_append]at k2;obtain⟨S2,S3,rfl,k3,k4⟩:=k2.split x.length;rw[List.take_append_of_le_length (Nat.le_refl _),List.take_of_length_le (Nat.le_refl _)]at k3;rw[List.drop_append,List.drop_eq_nil_of_le (Nat.le_refl _),Nat.sub_self,List.drop_zero,List.nil_append]at k4;exact⟨S1,S2,S3,_,_,_,rfl,by rw[List.take_append_drop,List.take_append_drop],k1,k3,k4⟩
theorem ld {base z i:Nat} {S1 S2 S3:Ft} {es:List (List TV)} {y:List TV} {v1 v2 v3:List Value} (hz:∀e∈es,e.length=z) (hi:i<es.length)
 (h1:db c ρ F h base S1 (es.flatten.take (i*z)) v1) (h2:db c ρ F h base S2 y v2) (h3:db c ρ F h base S3 ((es.flatten.drop (i*z)).drop z) v3):db c ρ F h base (S1++(S2++S3)) (es.set i y).flatten (v1++(v2++v3)):=by
 rw[kj hz hi];exact h1.join (h2.join h3)
theorem uo {es:List (List TV)} (cH:∀e∈es,∀t∈e,nV t=true):∀t∈es.flatten,nV t=true:=fun t ht=>by
 obtain⟨e,h1,h2⟩:=List.mem_flatten.1 ht;exact cH e h1 t h2
theorem p9.VT {t:TV} (h:fz t=true):p9 ids o (.v t) (.v t):=by
 cases t with
 |s v=>exact .s Lz.rfl
 |sl z es fl=>exact .sl (by simp) (by simp) Lz.rfl
 |oP t v=>
  cases v with
  |s v=>exact .oP (.s Lz.rfl)
  |_=>simp[fz]at h
 |dg g a c=>
  cases a with
  |nil=>
   cases c with
   |nil=>exact .dg .nil .nil
   |cons=>simp[fz]at h
  |cons=>simp[fz]at h
 |_=>simp[fz]at h
theorem yP.Mt:∀{l:List TV},(∀t∈l,nV t=true)→yP ids o [] l l
 |[],_=>.nil
 |t::l,h=>by
  have ht:=h t List.mem_cons_self;have ih:=yP.Mt fun x hx=>h x (List.mem_cons_of_mem _ hx);by_cases hq:eX t=true
  ·refine .v (p9.VT ?_) hq ih;cases t<;>first|exact ht|(simp[eX]at hq)
  ·cases t with
   |own y=>exact .own (.same Lz.rfl) ih
   |_=>simp[eX]at hq
theorem yP.append {U:List Nat} {a b:List TV} (L:yP ids o U a b) {a' b':List TV} (L':yP ids o [] a' b'):yP ids o U (a++a') (b++b'):=by
 induction L with
 |nil=>exact L'
 |own h _ ih=>exact .own h ih
 |v h hp _ ih=>exact .v h hp ih
inductive pS (ids:List (Option Nat)) (o:Ob):List (List TV)→List (List TV)→Prop
 |nil:pS ids o [] []
 |cons {x y:List TV} {l m:List (List TV)} (h:yP ids o [] x y) (k:pS ids o l m):pS ids o (x::l) (y::m)
theorem pS.refl:∀{es:List (List TV)},(∀e∈es,∀t∈e,nV t=true)→pS ids o es es
 |[],_=>.nil
 |e::_,h=>.cons (yP.Mt (h e List.mem_cons_self)) (pS.refl fun x hx=>h x (List.mem_cons_of_mem _ hx))
theorem pS.set {l m:List (List TV)} (R:pS ids o l m) {x y:List TV} (h:yP ids o [] x y):∀i:Nat,pS ids o (l.set i x) (m.set i y):=by
 induction R with
 |nil=>intro i;exact .nil
 |cons h1 k ih=>
  intro i;cases i with
  |zero=>exact .cons h k
  |succ i=>exact .cons h1 (ih i)
theorem pS.flatten {l m:List (List TV)} (R:pS ids o l m):yP ids o [] l.flatten m.flatten:=by
 induction R with
 |nil=>exact .nil
 |cons h _ ih=>rw[List.flatten_cons,List.flatten_cons];exact h.append ih
theorem CU.rows {op Og:List (Nat×List TV)} (L:CU ids o op Og) {es:List (List TV)} (cH:∀e∈es,∀t∈e,nV t=true):pS ids o (c8 es op) (c8 es Og)∧∀p∈Og,∃x,(p.1,x)∈op∧x.length=p.2.length:=by
 induction L with
 |nil=>exact⟨.refl cH,by simp⟩
 |cons h _ ih=>
  refine⟨ih.1.set h _,fun p hp=>?_⟩;rcases List.mem_cons.1 hp with rfl |hp
  ·exact⟨_,List.mem_cons_self,h.len⟩
  ·obtain⟨x,q1,q2⟩:=ih.2 p hp;exact⟨x,List.mem_cons_of_mem _ q1,q2⟩
theorem EV.rel (H:Mem X ρ F o c h) {S:Nat→Ft} (K:MO X ρ F o c h S) {U:List Nat} {q:Option (Option TO)} {y:TO} (L:EV ids o U q y) {n:Nat} (hq:q=EU ids o n) (Vg:zf n=Oo y):
 ∃S1,OR ids.length (fO ids zf ρ) F h X.base n S1 y∧((∃m,ids[n]? =some (some m)∧(∃y,look o m=some y)∧S1.Perm ((m::U).flatMap S))∨(S1=[]∧U=[]))∧∀u∈U,∃y,look o u=some y:=by
 have src:∀y0,some (some y0)=EU ids o n→∃m,ids[n]? =some (some m)∧look o m=some y0:=by
  intro y0 hs;unfold EU at hs;split at hs
  ·rename_i m hm;split at hs
   ·rename_i y1 hy;cases hs;exact⟨m,hm,hy⟩
   ·cases hs
  ·cases hs
  ·cases hs
 have isn:some none=EU ids o n→ids[n]? =some none:=by
  intro hs;unfold EU at hs;split at hs
  ·split at hs<;>cases hs
  ·assumption
  ·cases hs
 have fin:∀{U:List Nat} {y y0:TO},some (some y0)=EU ids o n→(∀m S0,ids[n]? =some (some m)→look o m=some y0→fO ids zf ρ n=ρ m→OR c ρ F h X.base m S0 y0→∃S1,OR ids.length (fO ids zf ρ) F h X.base n S1 y∧S1.Perm (S0++U.flatMap S))→(∀u∈U,∃y,look o u=some y)→
  ∃S1,OR ids.length (fO ids zf ρ) F h X.base n S1 y∧((∃m,ids[n]? =some (some m)∧(∃y,look o m=some y)∧S1.Perm ((m::U).flatMap S))∨(S1=[]∧U=[]))∧∀u∈U,∃y,look o u=some y:=by
  intro U y y0 hs hf hU;obtain⟨m,h1,h2⟩:=src y0 hs;obtain⟨S1,k1,k2⟩:=hf m _ h1 h2 (by simp[fO,h1]) (K.cC m y0 h2);exact⟨S1,k1,.inl ⟨m,h1,⟨y0,h2⟩,by simpa using k2⟩,hU⟩
 have p0:∀(S0:Ft),S0.Perm (S0++([]:List Nat).flatMap S):=fun S0=>by simp
 have closed:∀{U:List Nat} {y y0:TO},some (some y0)=EU ids o n→jL o U (.b (some y0) y)→∃S1,OR ids.length (fO ids zf ρ) F h X.base n S1 y∧((∃m,ids[n]? =some (some m)∧(∃y,look o m=some y)∧S1.Perm ((m::U).flatMap S))∨(S1=[]∧U=[]))∧∀u∈U,∃y,look o u=some y:=by
  intro U y y0 hs hL;obtain⟨g1,g2⟩:=hL.rel H K;refine fin hs (fun m S0 h1 h2 fN hO=>?_) g2;obtain⟨l,hl⟩:=hO.loc;obtain⟨S1,k1,k2⟩:=g1 y0 m S0 l rfl hO hl;exact⟨S1,OR.uk k1 (fN.trans hl),k2⟩
 cases L with
 |cells hN=>
  obtain⟨m,h1,h2⟩:=src _ hq;have hO:=K.cC m _ h2;refine fin hq (fun m' S0 _ _ fN VU=>?_) ?_
  ·cases VU with
   |cells hb hg ht hc=>
    obtain⟨⟨S1,k1,k2⟩,_⟩:=hN.rel (zf:=zf) H K hc;exact⟨_,.cells (fN.trans hb) hg ht k1,k2.cons _⟩
  ·generalize S m=S0 at hO;cases hO with
   |cells hb hg ht hc=>exact(hN.rel (zf:=zf) H K hc).2
 |map he=>exact closed hq (.map he)
 |VM he=>exact closed hq (.VM he)
 |arr he=>exact closed hq (.arr he)
 |VO he=>exact closed hq (.VO he)
 |cF hs he hL=>exact closed hq (.cF hs he hL)
 |Of hs he pR hL=>exact closed hq (.Of hs he pR hL)
 |fp hs he hL=>exact closed hq (.fp hs he hL)
 |iA he=>exact closed hq (.iA he)
 |aef he hi hN=>
  rename_i z a b i j x w;obtain rfl:=he.eq;obtain rfl:=hi.eq;obtain⟨m,h1,h2⟩:=src _ hq;have hO:=K.cC m _ h2;refine fin hq (fun m' S0 _ _ fN VU=>?_) ?_
  ·cases VU with
   |cF hb hg hf ht eF hz hl he cH kr hc=>
    obtain⟨o1,o2⟩:=kr (i,x) (by simp);obtain⟨S1,S2,S3,v1,v2,v3,rfl,rfl,a1,a2,a3⟩:=iI he o1 hc;obtain⟨⟨S4,k1,k2⟩,_⟩:=hN.rel (zf:=zf) H K a2;have fc:=uo cH;have:=ld he o1 (a1.conv (c':=ids.length) (ρ':=fO ids zf ρ) fun t ht=>fc t (List.mem_of_mem_take ht)) k1 (a3.conv fun t ht=>fc t (List.mem_of_mem_drop (List.mem_of_mem_drop ht)));refine⟨_,.cF (fN.trans hb) hg hf ht eF hz hl he cH (fun p hp=>?_) this,?_⟩
    ·simp only[List.mem_singleton]at hp;subst hp;exact⟨o1,by rw[←hN.len];exact o2⟩
    ·refine List.Perm.cons _ ((List.Perm.append_left S1 (k2.append_right S3)).trans ?_);show List.Perm _ ((S1++(S2++S3))++U.flatMap S);simp only[List.append_assoc];exact(List.perm_append_comm.append_left _).append_left _
  ·generalize S m=S0 at hO;cases hO with
   |cF hb hg hf ht eF hz hl he cH kr hc=>
    obtain⟨o1,o2⟩:=kr (i,x) (by simp);obtain⟨S1,S2,S3,v1,v2,v3,rfl,rfl,a1,a2,a3⟩:=iI he o1 hc;exact(hN.rel (zf:=zf) H K a2).2
 |aiq he hk ha hN=>
  rename_i kd a b k k' x w;obtain rfl:=he.eq;obtain rfl:=hk.eq;obtain⟨m,h1,h2⟩:=src _ hq;have hO:=K.cC m _ h2;have hU:∀u∈U,∃y,look o u=some y:=by
   generalize S m=S0 at hO;cases hO with
   |fp hb hg cH hc bz=>
    have key:∀{es:List (Value×TV)} {S0:Ft} {ev:List MapEntry},jk c ρ F h X.base kd S0 (dU es k x) ev→∃S2 vs,db c ρ F h X.base S2 (aF x) vs:=by
     intro es
     induction es with
     |nil=>intro S0 ev hE;cases hE with|cons _ _ _ hv _=>exact⟨_,_,hv⟩
     |cons e es ih=>
      intro S0 ev hE;unfold dU at hE;split at hE
      ·cases hE with|cons _ _ _ hv _=>exact⟨_,_,hv⟩
      ·cases hE with|cons _ _ _ _ hl=>exact ih hl
    obtain⟨S2,vs,hv⟩:=key hc;exact(hN.rel (zf:=zf) H K hv).2
  refine fin hq (fun m' S0 _ _ fN VU=>?_) hU;cases VU with
  |fp hb hg cH hc bz=>
   obtain⟨S1,q1,q2⟩:=jk.put (c':=ids.length) (ρ':=fO ids zf ρ) (V:=U.flatMap S) ha (fun S2 x h2=>(hN.rel (zf:=zf) H K h2).1) cH hc;exact⟨_,.fp (fN.trans hb) hg cH q1 bz,q2.cons _⟩
 |B6 he hN=>
  rename_i z a b op Og;obtain rfl:=he.eq;refine fin hq (fun m' S0 _ _ fN VU=>?_) (by simp);cases VU with
  |cF hb hg hf ht eF hz hl he cH kr hc=>
   obtain⟨r1,r2⟩:=hN.rows cH;obtain⟨⟨S1,k1,k2⟩,_⟩:=r1.flatten.rel (zf:=zf) H K hc;refine⟨_,.cF (fN.trans hb) hg hf ht eF hz hl he cH (fun p hp=>?_) k1,k2.cons _⟩;obtain⟨x,q1,q2⟩:=r2 p hp;obtain⟨w1,w2⟩:=kr _ q1;exact⟨w1,by rw[←q2];exact w2⟩
  |ib hb hz=>
   cases hN;exact⟨[],.ib (fN.trans hb) hz,by simp⟩
 |new hz=>
  have hi:=isn hq;exact⟨[],.nil (by simp[fO,hi,Vg,Oo]) (bc.1 hz),.inr ⟨rfl,rfl⟩,by simp⟩
 |air hz=>
  have hi:=isn hq;exact⟨[],.ib (by simp[fO,hi,Vg,Oo]) (bc.1 hz),.inr ⟨rfl,rfl⟩,by simp⟩
 |yQ Qk he hx hv=>
  rename_i z a b i j x y e e';obtain rfl:=he.eq;obtain⟨g1,g2⟩:=hx.rel H K;obtain⟨f1,f2⟩:=hx.E5 _ _ rfl;refine fin hq (fun m' S0 _ _ fN VU=>?_) g2;cases VU with
  |cF hb hg hf ht eF hz hl Mu cH kr hc=>
   obtain⟨o1,o2⟩:=kr (i,x) (by simp);obtain⟨o3,o4⟩:=kr (j,e) (by simp);have o2:x.length=z:=o2;have aep:∀r∈a.set j e,r.length=z:=fun r hr=>by
    rcases List.mem_or_eq_of_mem_set hr with q|q
    ·exact Mu r q
    ·rw[q];exact o4
   have aab:∀r∈a.set i y,r.length=z:=fun r hr=>by
    rcases List.mem_or_eq_of_mem_set hr with q|q
    ·exact Mu r q
    ·rw[q,←f1];exact o2
   have aer:∀r∈a.set i y,∀t∈r,nV t=true:=fun r hr=>by
    rcases List.mem_or_eq_of_mem_set hr with q|q
    ·exact cH r q
    ·rw[q];exact f2
   obtain⟨S1,S2,S3,v1,v2,v3,rfl,rfl,a1,a2,a3⟩:=iI (x:=x) aep (by rw[List.length_set];exact o1) hc;obtain⟨S4,k1,k2⟩:=g1 _ _ a2;have hj:=ld aep (by rw[List.length_set];exact o1) a1 (db.uk k1 _ _ rfl) a3;rw[List.set_comm _ _ (Ne.symm Qk)]at hj;obtain⟨T1,T2,T3,w1,w2,w3,q1,q2,b1,b2,b3⟩:=iI aab (by rw[List.length_set];exact o3) hj;obtain⟨⟨T4,l1,l2⟩,_⟩:=hv.rel (zf:=zf) H K b2;have fc:=uo aer;have Ro:=ld aab (by rw[List.length_set];exact o3) (b1.conv (c':=ids.length) (ρ':=fO ids zf ρ) fun t ht=>fc t (List.mem_of_mem_take ht)) l1 (b3.conv fun t ht=>fc t (List.mem_of_mem_drop (List.mem_of_mem_drop ht)))
   rw[←q2]at Ro;refine⟨_,.cF (by rw[List.length_set];exact fN.trans hb) hg hf ht eF hz (by rw[List.length_set];exact hl) aab aer (fun p hp=>?_) Ro,?_⟩
   ·simp only[List.mem_singleton]at hp;subst hp;exact⟨by rw[List.length_set];exact o3,by rw[←hv.len];exact o4⟩
   ·refine List.Perm.cons _ ?_;have p1:(T1++(T4++T3)).Perm (S1++(S4++S3)):=by
     rw[q1];exact List.Perm.append_left T1 ((by simpa using l2:T4.Perm T2).append_right T3)
    refine p1.trans ((List.Perm.append_left S1 (k2.append_right S3)).trans ?_);show List.Perm _ ((S1++(S2++S3))++U.flatMap S);simp only[List.append_assoc];exact(List.perm_append_comm.append_left _).append_left _
theorem C0:∀{l:List Nat},EW l=true→l.Nodup
 |[],_=>List.nodup_nil
 |n::l,h=>by
  simp only[EW,Bool.and_eq_true,Bool.not_eq_true',List.contains_eq_mem,decide_eq_false_iff_not]at h;exact List.nodup_cons.2 ⟨h.1,C0 h.2⟩
theorem Oq {U:List Nat} (h:lO ids U=true):U.Nodup∧∀u∈U,∀k:Nat,ids[k]? ≠some (some u):=by
 simp only[lO,Bool.and_eq_true,List.all_eq_true,Bool.not_eq_true',List.contains_eq_mem,decide_eq_false_iff_not]at h;exact⟨C0 h.1,fun u hu k hk=>h.2 u hu (List.mem_of_getElem? hk)⟩
theorem Kd.aac (_:Mem X ρ F o c h) {S:Nat→Ft} (_:MO X ρ F o c h S) {U:List Nat} {o1:Ob} (L:Kd ids o U o1):U.Nodup→∃Un:Nat→List Nat,(∀n,∀u∈Un n,u∈U)∧(∀n,(Un n).Nodup)∧(∀n1 n2 u,u∈Un n1→u∈Un n2→n1=n2)∧∀n y,look o1 n=some y→EV ids o (Un n) (EU ids o n) y:=by
 induction L with
 |nil=>intro _;exact⟨fun _=>[],by simp,by simp,by simp,fun n y hl=>by cases hl⟩
 |cons hT _ ih=>
  rename_i U1 U2 m y l _;intro Ap;obtain⟨n1,n2,n3⟩:=List.nodup_append.1 Ap;obtain⟨Un,k1,k2,k3,k4⟩:=ih n2;refine⟨fun n=>if n=m then U1 else Un n,fun n u hu=>?_,fun n=>?_,fun a b u ha hb=>?_,fun n y' hl=>?_⟩
  ·by_cases e:n=m
   ·simp only[e,if_true]at hu;exact List.mem_append_left _ hu
   ·simp only[e,if_false]at hu;exact List.mem_append_right _ (k1 n u hu)
  ·by_cases e:n=m
   ·simp only[e,if_true];exact n1
   ·simp only[e,if_false];exact k2 n
  ·by_cases ea:a=m<;>by_cases eb:b=m
   ·rw[ea,eb]
   ·simp only[ea,if_true]at ha;simp only[eb,if_false]at hb;exact absurd rfl (n3 u ha u (k1 b u hb))
   ·simp only[ea,if_false]at ha;simp only[eb,if_true]at hb;exact absurd rfl (n3 u hb u (k1 a u ha))
   ·simp only[ea,if_false]at ha;simp only[eb,if_false]at hb;exact k3 a b u ha hb
  ·rw[aQ]at hl;by_cases e:m=n
   ·rw[if_pos e]at hl;cases hl;subst e;simpa using hT
   ·rw[if_neg e]at hl;have:¬n=m:=fun e'=>e e'.symm;simp only[this,if_false];exact k4 n y' hl
structure Told (X:Cx) (ρ:Gh) (F:Nat→Prop) (o:Ob) (h:ah) (S:Nat→Ft) (ids:List (Option Nat)) (U:List Nat) (o1:Ob) (S1:Nat→Ft) (Ns:Nat→List Nat):Prop where
 cC:∀n y,look o1 n=some y→OR ids.length (fO ids (Ki o1) ρ) F h X.base n (S1 n) y
 perm:∀n y,look o1 n=some y→(S1 n).Perm ((Ns n).flatMap S)
 B7:∀n y,look o1 n=some y→(Ns n).Nodup
 g8:∀n y u,look o1 n=some y→u∈Ns n→∃y,look o u=some y
 aes:∀n y u,look o1 n=some y→u∈Ns n→ids[n]? =some (some u)∨u∈U
 one:∀n1 n2 y1 y2 u,look o1 n1=some y1→look o1 n2=some y2→u∈Ns n1→u∈Ns n2→n1=n2
open Classical in
open Classical in
theorem Kd.told (H:Mem X ρ F o c h) {S:Nat→Ft} (K:MO X ρ F o c h S) {U:List Nat} {o1:Ob} (L:Kd ids o U o1) (hi:iO c ids=true) (hU:lO ids U=true):∃S1 Ns,Told X ρ F o h S ids U o1 S1 Ns:=by
 obtain⟨u1,u2⟩:=Oq hU;obtain⟨Un,k1,k2,k3,k4⟩:=L.aac H K u1;have each:∀n,∃(S1:Ft) (N:List Nat),∀y,look o1 n=some y→OR ids.length (fO ids (Ki o1) ρ) F h X.base n S1 y∧S1.Perm (N.flatMap S)∧N.Nodup∧(∀u∈N,∃y,look o u=some y)∧∀u∈N,ids[n]? =some (some u)∨u∈Un n:=by
  intro n;cases hl:look o1 n with
  |none=>exact⟨[],[],fun y hy=>by cases hy⟩
  |some y=>
   obtain⟨S1,h1,h2,h3⟩:=(k4 n y hl).rel (zf:=Ki o1) H K rfl (by simp[Ki,hl]);rcases h2 with⟨m,q1,q2,q3⟩|⟨rfl,q2⟩
   ·refine⟨S1,m::Un n,fun y' hy'=>?_⟩;cases hy';refine⟨h1,q3,List.nodup_cons.2 ⟨fun hm=>u2 m (k1 n m hm) n q1,k2 n⟩,fun u hu=>?_,fun u hu=>?_⟩
    ·rcases List.mem_cons.1 hu with rfl |hu
     ·exact q2
     ·exact h3 u hu
    ·rcases List.mem_cons.1 hu with rfl |hu
     ·exact .inl q1
     ·exact .inr hu
   ·exact⟨[],[],fun y' hy'=>by cases hy';exact⟨h1,by simp,by simp,by simp,by simp⟩⟩
 refine⟨fun n=>Classical.choose (each n),fun n=>Classical.choose (Classical.choose_spec (each n)),?_⟩;have sp:=fun n y (hl:look o1 n=some y)=>Classical.choose_spec (Classical.choose_spec (each n)) y hl;refine⟨fun n y hl=>(sp n y hl).1,fun n y hl=>(sp n y hl).2.1,fun n y hl=>(sp n y hl).2.2.1,fun n y u hl hu=>(sp n y hl).2.2.2.1 u hu,fun n y u hl hu=>((sp n y hl).2.2.2.2 u hu).imp id (k1 n u),fun a b y1 y2 u hla hlb ha hb=>?_⟩;rcases(sp a y1 hla).2.2.2.2 u ha with p|p<;>rcases(sp b y2 hlb).2.2.2.2 u hb with q|q
 ·exact ou hi p q
 ·exact absurd p (u2 u (k1 b u q) a)
 ·exact absurd q (u2 u (k1 a u p) b)
 ·exact k3 a b u p q
theorem Ho {S:Nat→Ft} {N:List Nat} {x:Nat}:x∈cM (N.flatMap S)↔∃u∈N,x∈cM (S u):=by
 unfold cM;simp only[List.mem_map,List.mem_flatMap];constructor
 ·rintro⟨p,⟨u,h1,h2⟩,h3⟩;exact⟨u,h1,p,h2,h3⟩
 ·rintro⟨u,h1,p,h2,h3⟩;exact⟨p,⟨u,h1,h2⟩,h3⟩
theorem MO.Ar {S:Nat→Ft} (K:MO X ρ F o c h S):∀{N:List Nat},N.Nodup→(∀u∈N,∃y,look o u=some y)→(cM (N.flatMap S)).Nodup
 |[],_,_=>by simp[cM]
 |u::N,hn,hd=>by
  obtain⟨h1,h2⟩:=List.nodup_cons.1 hn;obtain⟨y,hy⟩:=hd u List.mem_cons_self;rw[List.flatMap_cons,sa];refine List.nodup_append.2 ⟨K.B7 u y hy,K.Ar h2 fun v hv=>hd v (List.mem_cons_of_mem _ hv),fun a ha b hb e=>?_⟩;subst e;obtain⟨v,hv,hx⟩:=Ho.1 hb;obtain⟨y',hy'⟩:=hd v (List.mem_cons_of_mem _ hv);have:=K.ff u v y y' a hy hy' ha hx;subst this;exact h1 hv
section
variable {S S1:Nat→Ft} {U:List Nat} {o1:Ob} {Ns:Nat→List Nat}
theorem Told.mem (D:Told X ρ F o h S ids U o1 S1 Ns) {n:Nat} {y:TO} (hl:look o1 n=some y) {x:Nat}:x∈cM (S1 n)↔∃u∈Ns n,x∈cM (S u):=by
 rw[←Ho];exact((D.perm n y hl).map _).mem_iff
theorem Told.aeu (D:Told X ρ F o h S ids U o1 S1 Ns) (K:MO X ρ F o c h S) {n:Nat} {y:TO} (hl:look o1 n=some y):(cM (S1 n)).Nodup:=
 ((D.perm n y hl).map _).nodup_iff.2 (K.Ar (D.B7 n y hl) fun u hu=>D.g8 n y u hl hu)
theorem Told.ff (D:Told X ρ F o h S ids U o1 S1 Ns) (K:MO X ρ F o c h S) {n1 n2:Nat} {y1 y2:TO} {x:Nat} (h1:look o1 n1=some y1) (h2:look o1 n2=some y2) (k1:x∈cM (S1 n1)) (k2:x∈cM (S1 n2)):n1=n2:=by
 obtain⟨u,a1,a2⟩:=(D.mem h1).1 k1;obtain⟨v,b1,b2⟩:=(D.mem h2).1 k2;obtain⟨_,c1⟩:=D.g8 _ _ _ h1 a1;obtain⟨_,c2⟩:=D.g8 _ _ _ h2 b1;have:=K.ff u v _ _ x c1 c2 a2 b2;subst this;exact D.one _ _ _ _ _ h1 h2 a1 b1
theorem Told.eG (D:Told X ρ F o h S ids U o1 S1 Ns) (K:MO X ρ F o c h S) {n:Nat} {y:TO} {x:Nat} (hl:look o1 n=some y) (k:x∈cM (S1 n)):X.base≤x∧x<h.size∧(X.M x∨X.h0.size≤x):=by
 obtain⟨u,a1,a2⟩:=(D.mem hl).1 k;obtain⟨_,c1⟩:=D.g8 _ _ _ hl a1;exact K.eG u _ x c1 a2
theorem Told.apart (D:Told X ρ F o h S ids U o1 S1 Ns) (K:MO X ρ F o c h S) {n:Nat} {y:TO} {x b:Nat} (hl:look o1 n=some y) (k:(x,true)∈S1 n) (hb:F b):hd h b≠x:=by
 have:=(D.perm n y hl).mem_iff.1 k;obtain⟨u,a1,a2⟩:=List.mem_flatMap.1 this;obtain⟨_,c1⟩:=D.g8 _ _ _ hl a1;exact K.apart u _ x b c1 a2 hb
end
theorem As (_:∀n l,ρ n=some l→n<c) {o1:Ob} {n:Nat} {l:Loc} (h:fO ids (Ki o1) ρ n=some l):n<ids.length:=by
 unfold fO at h;cases hq:ids[n]? with
 |none=>rw[hq]at h;cases h
 |some q=>exact um hq
theorem Mem.le (H:Mem X ρ F o c h) {U:List Nat} {o1:Ob} (hi:iO c ids=true) (hp:pQ X.c0 0 ids=true) (hU:lO ids U=true) (hO:Kd ids o U o1):
 Mem X (fO ids (Ki o1) ρ) F o1 ids.length h:=by
 obtain⟨S,K⟩:=H.ex;obtain⟨S1,Ns,D⟩:=hO.told H K hi hU;have pre:=CZ hp;refine⟨⟨S1,D.cC,fun n y hl=>D.aeu K hl,fun n1 n2 y1 y2 x h1 h2=>D.ff K h1 h2,fun n y x hl=>D.eG K hl,fun n y x b hl=>D.apart K hl⟩,fun n l hn=>As H.names hn,H.frozen,H.F0,H.wf,H.jb,H.mF,H.yR,?_,fun k l hk hl=>?_,fun k b hk hb=>?_⟩
 ·rcases Nat.lt_or_ge ids.length X.c0 with h1|h1
  ·have:=um (pre ids.length h1);omega
  ·exact h1
 ·have:=pre k hk;rw[Nat.zero_add]at this;exact H.vo.2.1 k l hk (by simpa[fO,this]using hl)
 ·have:=pre k hk;rw[Nat.zero_add]at this;simp only[fO,this];exact H.vo.2.2 k b hk hb
theorem Mem.ck (sh:List Nat):∀{F:Nat→Prop} {o:Ob},Mem X ρ F o c h→∃F',Mem X ρ F' (M.ck sh o) c h∧(∀t v,VR c ρ F h t v→VR c ρ F' h t v)∧(∀b,F b→F' b):=by
 induction sh with
 |nil=>intro F o H;exact⟨F,H,fun _ _ h=>h,fun _ h=>h⟩
 |cons m sh ih=>
  intro F o H;obtain⟨F1,H1,m1,f1,_⟩:=H.share m;obtain⟨F2,H2,m2,f2⟩:=ih H1;exact⟨F2,H2,fun t v h=>m2 t v (m1 t v h),fun b h=>f2 b (f1 b h)⟩
end
def iJ (S:Nat→Ft) (o:Ob):Nat→Prop:=fun x=>∃k y,look o k=some y∧x∈cM (S k)
def uq (base:Nat) (ρ:Gh) (F:Nat→Prop) (o:Ob) (c:Nat) (h:ah) (S:Nat→Ft):Cx:=⟨base,h,iJ S o,F,c,ρ⟩
def lR (T:Env) (F:Nat→Prop) (h:ah):Prop:=∀g cs,T.y5 g=some cs→F g∧h.rd g=some cs∧True
def wG (T:Env) (X:Cx):Prop:=lR T X.F0 X.h0
theorem wG.now {T:Env} {X:Cx} {ρ:Gh} {F:Nat→Prop} {o:Ob} {c:Nat} {h:ah} (N:wG T X) (H:Mem X ρ F o c h):lR T F h:=fun g cs hg=>
 let⟨n1,n2,n3⟩:=N g cs hg
 ⟨H.F0 g n1,(H.jb.c7 g n1).trans n2,n3⟩
def VC (E:Env):Ql:=fun g c args o R=>
 ∀(base:Nat) (ρ:Gh) (F:Nat→Prop) (h:ah) (S:Nat→Ft) (dW:List Value),lR E F h→Mem (uq base ρ F o c h S) ρ F o c h→MO (uq base ρ F o c h S) ρ F o c h S→ee c ρ F h args dW→
  ∃n v h' ρ' F' r o' c',fW E base n g dW h=some (v,h')∧R r o' c'∧Mem (uq base ρ F o c h S) ρ' F' o' c' h'∧VR c' ρ' F' h' r v
theorem Evo.refl (M F0:Nat→Prop) (h:ah):Evo M F0 h h:=⟨Nat.le_refl _,fun _ _ _=>rfl,fun _ _=>rfl,fun _ _=>rfl⟩
section
variable {X:Cx} {ρ:Gh} {F:Nat→Prop} {o:Ob} {c:Nat} {h:ah} {ids:List (Option Nat)}
theorem Mem.hand (H:Mem X ρ F o c h) {S S1:Nat→Ft} {U:List Nat} {Ns:Nat→List Nat} (K:MO X ρ F o c h S) {o0:Ob} (D:Told X ρ F o h S ids U o0 S1 Ns):
 Mem (uq X.base (fO ids (Ki o0) ρ) F o0 ids.length h S1) (fO ids (Ki o0) ρ) F o0 ids.length h∧MO (uq X.base (fO ids (Ki o0) ρ) F o0 ids.length h S1) (fO ids (Ki o0) ρ) F o0 ids.length h S1:=by
 have M:MO (uq X.base (fO ids (Ki o0) ρ) F o0 ids.length h S1) (fO ids (Ki o0) ρ) F o0 ids.length h S1:=
  ⟨D.cC,fun n y hl=>D.aeu K hl,fun n1 n2 y1 y2 x h1 h2=>D.ff K h1 h2,fun n y x hl hx=>⟨(D.eG K hl hx).1,(D.eG K hl hx).2.1,.inl ⟨n,y,hl,hx⟩⟩,fun n y x b hl=>D.apart K hl⟩
 exact⟨⟨⟨S1,M⟩,fun n l hn=>As H.names hn,H.frozen,fun _ hb=>hb,H.wf,.refl _ _ _,H.mF,fun _ hb=>.inl hb,Nat.le_refl _,fun _ _ _ hl=>hl,fun _ _ _ hb=>hb⟩,M⟩
open Classical in
noncomputable def sX (ids:List (Option Nat)) (c:Nat) (ρ ρ':Gh):Gh:=fun n=>
 if hx:∃k:Nat,ids[k]? =some (some n)then ρ' (Classical.choose hx)else if n<c then ρ n else if(∃m:Nat,ids[n - c]? =some (some m))then none else ρ' (n - c)
theorem Kj {ρ':Gh} (hi:iO c ids=true) {k m:Nat} (hk:ids[k]? =some (some m)):sX ids c ρ ρ' m=ρ' k:=by
 unfold sX;have hx:∃k:Nat,ids[k]? =some (some m):=⟨k,hk⟩;rw[dif_pos hx,ou hi (Classical.choose_spec hx) hk]
theorem zd {ρ':Gh} {n:Nat} (hn:∀k:Nat,ids[k]? ≠some (some n)) (hc:n<c):sX ids c ρ ρ' n=ρ n:=by
 unfold sX;rw[dif_neg (fun⟨k,hk⟩=>hn k hk),if_pos hc]
theorem Rp {ρ':Gh} (hi:iO c ids=true) (k:Nat):sX ids c ρ ρ' (back ids c k)=ρ' k:=by
 unfold back;split
 ·rename_i m hm;exact Kj hi hm
 ·rename_i uc;unfold sX;rw[dif_neg,if_neg om,if_neg,Nat.add_sub_cancel_left]
  ·rintro⟨m,hm⟩;rw[Nat.add_sub_cancel_left]at hm;exact uc m hm
  ·rintro⟨k',r7⟩;have:=lQ hi r7;omega
theorem At (hi:iO c ids=true) {k k':Nat} (h:back ids c k=back ids c k'):k=k':=by
 unfold back at h;split at h
 ·rename_i m hm;split at h
  ·rename_i m' Z9;subst h;exact ou hi hm Z9
  ·have:=lQ hi hm;omega
 ·split at h
  ·rename_i m' Z9;have:=lQ hi Z9;omega
  ·omega
theorem VV (hi:iO c ids=true) {k c':Nat} (hk:k<c'):back ids c k<c+c':=by
 unfold back;split
 ·rename_i m hm;have:=lQ hi hm;omega
 ·omega
theorem ov (β:Nat→Nat):∀(l:List TV) (i:Nat),(TV.iq β l)[i]? =(l[i]?).map (TV.nu β)
 |[],i=>by simp[TV.iq]
 |v::l,i=>by
  cases i with
  |zero=>simp[TV.iq]
  |succ i=>simp[TV.iq,ov β l i]
theorem gO (β:Nat→Nat):∀(l:List TV),(TV.iq β l).length=l.length
 |[]=>rfl
 |v::l=>by simp[TV.iq,gO β l]
theorem VR.nu {c' cc:Nat} {ρ' Qn:Gh} {F':Nat→Prop} {h':ah} {β:Nat→Nat} (E6:∀k,k<c'→β k<cc) (fN:∀k,Qn (β k)=ρ' k) {t:TV} {x:Value} (H:VR c' ρ' F' h' t x):VR cc Qn F' h' (t.nu β) x:=by
 induction H with
 |j v=>exact .j v
 |s hp=>exact .s hp
 |nil he=>exact .nil he
 |sl h1 h2 h3 h4 h5 h6 h7 h8 h9 hc _=>exact .sl h1 h2 h3 h4 h5 h6 h7 h8 h9 fun i j e t v q1 q2 q3=>(hc i j e t v q1 q2 q3).eo (h9 e (List.mem_of_getElem? q1) t (List.mem_of_getElem? q2))
 |tk hn sb ha h0=>exact .tk (E6 _ hn) sb (fun b z len hx=>ha b z len (by rw[←fN];exact hx)) (fun z hx=>h0 z (by rw[←fN];exact hx))
 |ptr hb=>exact .ptr (by rw[fN];exact hb)
 |ep h1 h2 h3 h4 hc _=>exact .ep h1 h2 h3 h4 fun j t v q1 q2=>(hc j t v q1 q2).eo (h4 t (List.mem_of_getElem? q1))
 |wp hn sb ha h0=>exact .wp (E6 _ hn) sb (fun b z len hx=>ha b z len (by rw[←fN];exact hx)) (fun z hx=>h0 z (by rw[←fN];exact hx))
 |mp hb=>exact .mp (by rw[fN];exact hb)
 |bg hb=>exact .bg (by rw[fN];exact hb)
 |sv hn sb ha h0=>exact .sv (E6 _ hn) sb (fun b z len hx=>ha b z len (by rw[←fN];exact hx)) (fun z hx=>h0 z (by rw[←fN];exact hx))
 |pv hn sb ha h0=>exact .pv (E6 _ hn) sb (fun b z len hx=>ha b z len (by rw[←fN];exact hx)) (fun z hx=>h0 z (by rw[←fN];exact hx))
 |agg hs _ ih=>
  refine .agg (by rw[gO];exact hs) fun i t v q1 q2=>?_;rw[ov,Option.map_eq_some_iff]at q1;obtain⟨t0,q3,rfl⟩:=q1;exact ih i t0 v q3 q2
 |cB hs _ ih=>
  refine .cB (by rw[gO];exact hs) fun i t v q1 q2=>?_;rw[ov,Option.map_eq_some_iff]at q1;obtain⟨t0,q3,rfl⟩:=q1;exact ih i t0 v q3 q2
 |oP _ ih=>exact .oP ih
 |dg hs _ ht _ Eh Ei=>
  refine .dg (by rw[gO];exact hs) (fun i t v q1 q2=>?_) (by rw[gO];exact ht) (fun i t v q1 q2=>?_)
  ·rw[ov,Option.map_eq_some_iff]at q1;obtain⟨t0,q3,rfl⟩:=q1;exact Eh i t0 v q3 q2
  ·rw[ov,Option.map_eq_some_iff]at q1;obtain⟨t0,q3,rfl⟩:=q1;exact Ei i t0 v q3 q2
theorem ee.nu {c' cc:Nat} {ρ' Qn:Gh} {F':Nat→Prop} {h':ah} {β:Nat→Nat} (E6:∀k,k<c'→β k<cc) (fN:∀k,Qn (β k)=ρ' k) {l:List TV} {m:List Value} (H:ee c' ρ' F' h' l m):ee cc Qn F' h' (TV.iq β l) m:=by
 refine⟨by rw[gO];exact H.1,fun i t v q1 q2=>?_⟩;rw[ov,Option.map_eq_some_iff]at q1;obtain⟨t0,q3,rfl⟩:=q1;exact(H.2 i t0 v q3 q2).nu E6 fN
theorem Rq (β:Nat→Nat) {t:TV} (hf:fz t=true):t.nu β=t:=by
 unfold fz at hf;split at hf<;>first|rfl |(simp[TV.nu];done)|(simp[TV.nu,TV.iq];done)|cases hf
theorem Rr (β:Nat→Nat) {t:TV} (hf:nV t=true):t.nu β=t:=by
 unfold nV at hf;split at hf
 ·simp[TV.nu]
 ·exact Rq β hf
theorem Au (β:Nat→Nat):∀{l:List TV},(∀t∈l,nV t=true)→TV.iq β l=l
 |[],_=>rfl
 |t::l,h=>by simp only[TV.iq];rw[Rr β (h t List.mem_cons_self),Au β fun t ht=>h t (List.mem_cons_of_mem _ ht)]
theorem Hu (β:Nat→Nat) (a b:List TV):TV.iq β (a++b)=TV.iq β a++TV.iq β b:=by
 induction a with
 |nil=>rfl
 |cons t l ih=>simp[TV.iq,ih]
theorem E7 (β:Nat→Nat) (l:List (List TV)):TV.iq β l.flatten=(l.map (TV.iq β)).flatten:=by
 induction l with
 |nil=>rfl
 |cons t l ih=>simp[Hu,ih]
theorem Hv (β:Nat→Nat) {es:List (List TV)} (cH:∀e∈es,∀t∈e,nV t=true):∀op,c8 es (Aj β op)=(c8 es op).map (TV.iq β)
 |[]=>by
  show es=es.map (TV.iq β);refine List.ext_getElem? fun i=>?_;rw[List.getElem?_map];cases he:es[i]? with
  |none=>rfl
  |some e=>simp[Au β (cH e (List.mem_of_getElem? he))]
 |p::l=>by
  show(c8 es (Aj β l)).set p.1 (TV.iq β p.2)=((c8 es l).set p.1 p.2).map (TV.iq β);rw[Hv β cH l,List.map_set]
theorem Hy (f:TV→TV) (k:Value) (v:TV):∀es:List (Value×TV),(dU es k v).map (fun e=>(e.1,f e.2))=dU (es.map fun e=>(e.1,f e.2)) k (f v)
 |[]=>rfl
 |e::es=>by
  simp only[dU,List.map_cons];cases tf k e.1 with
  |true=>rfl
  |false=>simp[Hy f k v es]
theorem C1 (β:Nat→Nat) (v:TV):aF (v.nu β)=TV.iq β (aF v)∧dF (v.nu β)=dF v:=by
 cases v<;>simp[TV.nu,aF,dF,TV.iq]
theorem VW (β:Nat→Nat) {v:TV} (h:∀t∈aF v,nV t=true):v.nu β=v:=by
 cases v with
 |agg cs=>
  have e:TV.iq β cs=cs:=Au β h;simp only[TV.nu,e]
 |_=>exact Rr β (h _ (by simp[aF]))
theorem Mv (β:Nat→Nat) {es:List (Value×TV)} (cH:∀e∈es,∀t∈aF e.2,nV t=true):∀op,Od es (Mn β op)=(Od es op).map fun e=>(e.1,e.2.nu β)
 |[]=>by
  show es=es.map fun e=>(e.1,e.2.nu β);refine List.ext_getElem? fun i=>?_;rw[List.getElem?_map];cases he:es[i]? with
  |none=>rfl
  |some e=>simp[VW β (cH e (List.mem_of_getElem? he))]
 |p::l=>by
  show dU (Od es (Mn β l)) p.1 (p.2.nu β)=(dU (Od es l) p.1 p.2).map fun e=>(e.1,e.2.nu β);rw[Mv β cH l,Hy]
section
variable {c' cc:Nat} {ρ' Qn:Gh} {F':Nat→Prop} {h':ah} {β:Nat→Nat} {base:Nat} {S:Ft}
theorem db.nu (E6:∀k,k<c'→β k<cc) (fN:∀k,Qn (β k)=ρ' k) {l:List TV} {m:List Value} (H:db c' ρ' F' h' base S l m):db cc Qn F' h' base S (TV.iq β l) m:=by
 induction H with
 |nil=>exact .nil
 |vr hv _ ih=>exact .vr (hv.nu E6 fN) ih
 |cl hv _ ih=>
  rename_i t v l m _;have:t.nu β=t:=by
   cases hv with
   |fz hf _=>exact Rq β hf
   |own=>simp[TV.nu]
  simp only[TV.iq];rw[this];exact .cl hv ih
theorem jk.nu (E6:∀k,k<c'→β k<cc) (fN:∀k,Qn (β k)=ρ' k) {kd:Nat} {l:List (Value×TV)} {m:List MapEntry} (H:jk c' ρ' F' h' base kd S l m):jk cc Qn F' h' base kd S (l.map fun e=>(e.1,e.2.nu β)) m:=by
 induction H with
 |nil=>exact .nil
 |cons hk ji ha hv _ ih=>
  exact .cons hk ji ((C1 β _).2.trans ha) (by rw[(C1 β _).1];exact hv.nu E6 fN) ih
theorem OR.nu {k:Nat} (E6:∀k,k<c'→β k<cc) (fN:∀k,Qn (β k)=ρ' k) {y:TO} (H:OR c' ρ' F' h' base k S y):OR cc Qn F' h' base (β k) S (y.nu β):=by
 cases H with
 |cells hb hg ht hc=>exact .cells ((fN k).trans hb) hg ht (hc.nu E6 fN)
 |map hb hg hl hc bz=>exact .map ((fN k).trans hb) hg hl (fun i e e' q1 q2=>let⟨r1,r2,r3,r4⟩:=hc i e e' q1 q2;⟨r1,r2,r3,r4.zb r3⟩) bz
 |nil hb hz=>exact .nil ((fN k).trans hb) hz
 |arr hb hg hf ht eF hz hlen he iG hc hF=>exact .arr ((fN k).trans hb) hg hf ht eF hz hlen he iG (fun i j e t v q1 q2 q3=>(hc i j e t v q1 q2 q3).eo (iG e (List.mem_of_getElem? q1) t (List.mem_of_getElem? q2))) hF
 |ib hb hz=>exact .ib ((fN k).trans hb) hz
 |cF hb hg hf ht eF hz hlen he cH kr hc=>
  refine .cF ((fN k).trans hb) hg hf ht eF hz hlen he cH (fun p hp=>?_) (by rw[Hv β cH,←E7];exact hc.nu E6 fN);have key:∀op:List (Nat×List TV),p∈Aj β op→∃q∈op,p.1=q.1∧p.2.length=q.2.length:=by
   intro op
   induction op with
   |nil=>intro h;simp[Aj]at h
   |cons q l ih=>
    intro h;simp only[Aj,List.mem_cons]at h;rcases h with rfl |h
    ·exact⟨q,List.mem_cons_self,rfl,gO β _⟩
    ·obtain⟨q',h1,h2⟩:=ih h;exact⟨q',List.mem_cons_of_mem _ h1,h2⟩
  obtain⟨q,h1,h2,h3⟩:=key _ hp;rw[h2,h3];exact kr q h1
 |fp hb hg cH hc bz=>exact .fp ((fN k).trans hb) hg cH (by rw[Mv β cH];exact hc.nu E6 fN) bz
 |iA hb hg=>exact .iA ((fN k).trans hb) hg
end
theorem wH {β:Nat→Nat} (E6:∀k k',β k=β k'→k=k'):∀{o:Ob} {n:Nat} {y:TO},look (Ke β o) n=some y→∃k y0,n=β k∧look o k=some y0∧y=y0.nu β
 |[],n,y,h=>by cases h
 |p::l,n,y,h=>by
  simp only[Ke]at h;rw[aQ]at h;split at h
  ·rename_i e;cases h;exact⟨p.1,p.2,e.symm,by rw[aQ,if_pos rfl],rfl⟩
  ·rename_i e;obtain⟨k,y0,rfl,h2,h3⟩:=wH E6 h;refine⟨k,y0,rfl,?_,h3⟩;rw[aQ,if_neg (fun e2=>e (by rw[e2]))];exact h2
theorem ph:∀{ids:List (Option Nat)} {o:Ob} {n:Nat} {y:TO},look (kT ids o) n=some y→look o n=some y∧∀k:Nat,ids[k]? ≠some (some n)
 |[],o,n,y,h=>⟨h,fun k=>by simp⟩
 |none::l,o,n,y,h=>by
  obtain⟨h1,h2⟩:=ph (ids:=l) h;refine⟨h1,fun k=>?_⟩;cases k with
  |zero=>simp
  |succ k=>simpa using h2 k
 |some m::l,o,n,y,h=>by
  obtain⟨h1,h2⟩:=ph (ids:=l) h;rw[dP]at h1;by_cases e:n=m
  ·rw[if_pos e]at h1;cases h1
  ·rw[if_neg e]at h1;refine⟨h1,fun k=>?_⟩;cases k with
   |zero=>simp;exact fun e2=>e e2.symm
   |succ k=>simpa using h2 k
theorem Av:∀{U:List Nat} {o:Ob} {n:Nat} {y:TO},look (xS U o) n=some y→look o n=some y∧n∉U
 |[],o,n,y,h=>⟨h,by simp⟩
 |m::l,o,n,y,h=>by
  obtain⟨h1,h2⟩:=Av (U:=l) h;rw[dP]at h1;by_cases e:n=m
  ·rw[if_pos e]at h1;cases h1
  ·rw[if_neg e]at h1;exact⟨h1,by simp[e,h2]⟩
open Classical in
theorem Mem.merge (H:Mem X ρ F o c h) {S S1:Nat→Ft} {U:List Nat} {Ns:Nat→List Nat} (K0:MO X ρ F o c h S) {o0:Ob} (hi:iO c ids=true) (D:Told X ρ F o h S ids U o0 S1 Ns) {ρ':Gh} {F':Nat→Prop} {o':Ob} {c':Nat} {h':ah}
 (K:Mem (uq X.base (fO ids (Ki o0) ρ) F o0 ids.length h S1) ρ' F' o' c' h'):
 Mem X (sX ids c ρ ρ') F' (Ke (back ids c) o'++xS U (kT ids o)) (c+c') h'∧(∀t v,VR c ρ F h t v→VR (c+c') (sX ids c ρ ρ') F' h' t v)∧(∀t v,VR c' ρ' F' h' t v→VR (c+c') (sX ids c ρ ρ') F' h' (t.nu (back ids c)) v)∧
  ∀n y,look o n=some y→(∀k:Nat,ids[k]? ≠some (some n))→n∉U→∀x∈cM (S n),¬iJ S1 o0 x:=by
 obtain⟨S',KO⟩:=K.ex;have hA:∀n l,n<c→sX ids c ρ ρ' n=some l→ρ n=some l:=fun n l hn hl=>by
  by_cases hx:∃k:Nat,ids[k]? =some (some n)
  ·obtain⟨k,hk⟩:=hx;rw[Kj hi hk]at hl;have:=K.vo.2.1 k l (um hk) hl;simpa[uq,fO,hk]using this
  ·rwa [zd (fun k hk=>hx ⟨k,hk⟩) hn]at hl
 have hB:∀n b,ρ n=some (.dJ b)→sX ids c ρ ρ' n=some (.dJ b):=fun n b hb=>by
  by_cases hx:∃k:Nat,ids[k]? =some (some n)
  ·obtain⟨k,hk⟩:=hx;rw[Kj hi hk];exact K.vo.2.2 k b (um hk) (by simpa[uq,fO,hk]using hb)
  ·rw[zd (fun k hk=>hx ⟨k,hk⟩) (H.names _ _ hb)];exact hb
 have E6:=fun k (hk:k<c')=>VV hi hk;have fN:=fun k=>Rp (ρ:=ρ) (ρ':=ρ') hi k;have c7:∀b cs,F b→h.rd b=some cs→h'.rd b=some cs:=fun b cs hb hr=>by rw[K.jb.c7 b hb];exact hr
 have qy:∀b,F b→F' b:=fun b hb=>K.F0 b hb;have hm:∀t v,VR c ρ F h t v→VR (c+c') (sX ids c ρ ρ') F' h' t v:=fun t v=>VR.mono om hA hB qy c7;have fq:h.size≤h'.size:=K.jb.size
 -- families that the call may have changed
 have hM:∀x,iJ S1 o0 x→∃(u:Nat) (y:TO),((∃k:Nat,ids[k]? =some (some u))∨u∈U)∧look o u=some y∧x∈cM (S u):=by
  rintro x ⟨k,y,hl,hh⟩;obtain⟨u,h1,h2⟩:=(D.mem hl).1 hh;obtain⟨y',h3⟩:=D.g8 _ _ _ hl h1;exact⟨u,y',(D.aes _ _ _ hl h1).imp (fun h=>⟨_,h⟩) id,h3,h2⟩
 have hMX:∀x,iJ S1 o0 x→X.M x∨X.h0.size≤x:=fun x hx=>by
  obtain⟨u,y,_,h2,h3⟩:=hM x hx;exact(K0.eG u y x h2 h3).2.2
 have same:∀b,b<h.size→¬iJ S1 o0 (hd h b)→h'.get b=h.get b:=fun b hb hx=>K.jb.bx b hb hx;have out:∀n y,look o n=some y→(∀k:Nat,ids[k]? ≠some (some n))→n∉U→∀x∈cM (S n),¬iJ S1 o0 x:=by
  intro n y hl h1 h2 x hx hy;obtain⟨u,y',q1,q2,q3⟩:=hM x hy;have:=K0.ff n u y y' x hl q2 hx q3;subst this;rcases q1 with⟨k,q1⟩|q1
  ·exact h1 k q1
  ·exact h2 q1
 let S2:Nat→Ft:=fun n=>if hx:∃k y0,n=back ids c k∧look o' k=some y0 then S' (Classical.choose hx)else S n
 have s2a:∀k y0,look o' k=some y0→S2 (back ids c k)=S' k:=fun k y0 hl=>by
  have hx:∃k' y0,back ids c k=back ids c k'∧look o' k'=some y0:=⟨k,y0,rfl,hl⟩;simp only[S2];rw[dif_pos hx];obtain⟨_,h1,_⟩:=Classical.choose_spec hx;rw[At hi h1.symm]
 have mh:∀n y,look (Ke (back ids c) o'++xS U (kT ids o)) n=some y→
  (∃k y0,n=back ids c k∧look o' k=some y0∧y=y0.nu (back ids c)∧S2 n=S' k)∨
  (look o n=some y∧(∀k:Nat,ids[k]? ≠some (some n))∧n∉U∧S2 n=S n):=by
  intro n y hl;rw[kh]at hl;split at hl
  ·rename_i y1 h1;cases hl;obtain⟨k,y0,rfl,h2,rfl⟩:=wH (fun k k'=>At hi) h1;exact .inl ⟨k,y0,rfl,h2,rfl,s2a k y0 h2⟩
  ·rename_i uc;obtain⟨h1,h2⟩:=Av hl;obtain⟨h3,h4⟩:=ph h1;refine .inr ⟨h3,h4,h2,?_⟩;simp only[S2];rw[dif_neg];rintro⟨k,y0,rfl,hk⟩;have JB:=H.lt h3;unfold back at h4 JB;split at JB
   ·rename_i m hm;rw[hm]at h4;exact h4 k hm
   ·omega
 have old:∀n y,look o n=some y→(∀k:Nat,ids[k]? ≠some (some n))→n∉U→OR (c+c') (sX ids c ρ ρ') F' h' X.base n (S n) y:=fun n y hl h1 h2=>
  (K0.cC n y hl).bx (T:=iJ S1 o0) H.wf same (out n y hl h1 h2) qy c7 hm (zd h1 (H.lt hl))
 -- a family of the call's is none of the others
 have apart:∀k y0 x,look o' k=some y0→x∈cM (S' k)→iJ S1 o0 x∨h.size≤x:=fun k y0 x hl hh=>(KO.eG k y0 x hl hh).2.2;refine⟨⟨⟨S2,fun n y hl=>?_,fun n y hl=>?_,fun n1 n2 y1 y2 x h1 h2 k1 k2=>?_,fun n y x hl hh=>?_,fun n y x b hl hs hb=>?_⟩,fun n l hn=>?_,fun b hb=>K.frozen b hb,fun b hb=>qy b (H.F0 b hb),K.wf,⟨Nat.le_trans H.jb.size fq,fun b hb hMb=>?_,fun b hb=>?_,fun b hb=>?_⟩,Nat.le_trans H.mF fq,fun b hb=>?_,?_,fun k l hk hl=>?_,fun k b hk hb=>?_⟩,hm,fun t v=>VR.nu E6 fN,out⟩
 ·rcases mh n y hl with⟨k,y0,rfl,h1,rfl,h2⟩|⟨h1,h2,h3,h4⟩
  ·rw[h2];exact(KO.cC k y0 h1).nu E6 fN
  ·rw[h4];exact old n y h1 h2 h3
 ·rcases mh n y hl with⟨k,y0,rfl,h1,rfl,h2⟩|⟨h1,h2,h3,h4⟩
  ·rw[h2];exact KO.B7 k y0 h1
  ·rw[h4];exact K0.B7 n y h1
 ·rcases mh n1 y1 h1 with⟨k,z1,rfl,a1,_,e1⟩|⟨a1,f1,g1,e1⟩<;>rcases mh n2 y2 h2 with⟨k',z2,rfl,a2,_,e2⟩|⟨a2,f2,g2,e2⟩
  ·rw[e1]at k1;rw[e2]at k2;rw[KO.ff k k' z1 z2 x a1 a2 k1 k2]
  ·rw[e1]at k1;rw[e2]at k2;rcases apart _ _ _ a1 k1 with h3|h3
   ·exact absurd h3 (out _ _ a2 f2 g2 x k2)
   ·have:=(K0.eG _ _ _ a2 k2).2.1;omega
  ·rw[e1]at k1;rw[e2]at k2;rcases apart _ _ _ a2 k2 with h3|h3
   ·exact absurd h3 (out _ _ a1 f1 g1 x k1)
   ·have:=(K0.eG _ _ _ a1 k1).2.1;omega
  ·rw[e1]at k1;rw[e2]at k2;exact K0.ff _ _ _ _ x a1 a2 k1 k2
 ·rcases mh n y hl with⟨k,z1,rfl,a1,_,e1⟩|⟨a1,_,_,e1⟩
  ·rw[e1]at hh;obtain⟨q1,q2,q3⟩:=KO.eG _ _ _ a1 hh;refine⟨q1,q2,?_⟩;rcases q3 with q3|q3
   ·exact hMX x q3
   ·exact .inr (Nat.le_trans H.jb.size q3)
  ·rw[e1]at hh;obtain⟨q1,q2,q3⟩:=K0.eG _ _ _ a1 hh;exact⟨q1,Nat.lt_of_lt_of_le q2 fq,q3⟩
 ·rcases mh n y hl with⟨k,z1,rfl,a1,e0,e1⟩|⟨a1,f1,g1,e1⟩
  ·rw[e1]at hs;exact KO.apart k z1 x b a1 hs hb
  ·rw[e1]at hs;have Qi:=(K0.eG _ _ _ a1 (eJ hs)).2.1;intro e;rcases K.yR b hb with h3|h3|h3
   ·have B8:F b:=h3;rw[K.jb.cM b (H.CY B8)]at e;exact K0.apart _ _ _ b a1 hs B8 e
   ·rw[e]at h3;exact out _ _ a1 f1 g1 x (eJ hs) h3
   ·rw[e]at h3;have:h.size≤x:=h3;omega
 ·by_cases hx:∃k:Nat,ids[k]? =some (some n)
  ·obtain⟨k,hk⟩:=hx;have:=lQ hi hk;omega
  ·rcases Nat.lt_or_ge n c with h1|h1
   ·omega
   ·have hnk:¬∃m:Nat,ids[n - c]? =some (some m):=fun⟨m,hm⟩=>by
     simp only[sX]at hn;rw[dif_neg hx,if_neg om,if_pos ⟨m,hm⟩]at hn;cases hn
    simp only[sX]at hn;rw[dif_neg hx,if_neg om,if_neg hnk]at hn;have:=K.names _ _ hn;omega
 ·have h1:=H.jb.bx b hb hMb;have h2:=H.jb.cM b hb;rw[same b (Nat.lt_of_lt_of_le hb H.jb.size) ?_,h1];intro hx;rw[h2]at hx;rcases hMX _ hx with k|k
  ·exact hMb k
  ·have:=H.wf.Hg b;rw[h2]at this;omega
 ·have:=H.F0 b hb;exact(K.jb.c7 b this).trans (H.jb.c7 b hb)
 ·exact(K.jb.cM b (Nat.lt_of_lt_of_le hb H.jb.size)).trans (H.jb.cM b hb)
 ·rcases K.yR b hb with h3|h3|h3
  ·have B8:F b:=h3;rw[K.jb.cM b (H.CY B8)];exact H.yR b B8
  ·exact .inr (hMX _ h3)
  ·exact .inr (.inr (Nat.le_trans H.jb.size h3))
 ·have:=H.vo.1;omega
 ·exact H.vo.2.1 k l hk (hA k l (Nat.lt_of_lt_of_le hk H.vo.1) hl)
 ·exact hB k b (H.vo.2.2 k b hk hb)
end
end Go.M
namespace Go.M
open Go
def HE (run run':BV):Prop:=∀c f h r,run c f h=some r→run' c f h=some r
def Aw (cf Vh:fk):Prop:=∀g a h r,cf g a h=some r→Vh g a h=some r
def ze (rf Vi:eD):Prop:=∀l a h r,rf l a h=some r→Vi l a h=some r
section
variable {E:Env} {base:Nat}
theorem sc {run run':BV} (H:HE run run'):Aw (eE E base run) (eE E base run'):=by
 intro g a h r hr;unfold eE at hr ⊢;simp only[Option.bind_eq_some_iff]at hr ⊢;obtain⟨fn,h1,h2⟩:=hr;refine⟨fn,h1,?_⟩;split at h2
 ·rename_i q hq;simpa[hq]using h2
 ·rename_i hq;simp only[Option.bind_eq_some_iff,aj]at h2 ⊢;obtain⟨c,h3,h4,h5⟩:=h2;refine⟨c,h3,h4,?_⟩;split at h5
  ·rename_i f' h' hx;rw[H _ _ _ _ hx];exact h5
  ·rename_i f' h' hx;rw[H _ _ _ _ hx];exact h5
  ·cases h5
theorem Ax {run run':BV} (H:HE run run'):ze (dK base run) (dK base run'):=by
 intro l a h r hr;unfold dK at hr ⊢;rw[aj]at hr ⊢;refine⟨hr.1,?_⟩;obtain⟨_,hr⟩:=hr;split at hr
 ·rename_i p f ps gS body hg;rw[aj]at hr ⊢;refine⟨hr.1,?_⟩;obtain⟨_,hr⟩:=hr;split at hr
  ·rename_i f1 h1 hx;rw[H _ _ _ _ hx];simp only
   split at hr
   ·rename_i p1 f0 g6 sV kF od;simp only[Option.bind_eq_some_iff]at hr ⊢;obtain⟨q,h2,h3⟩:=hr;exact⟨q,H _ _ _ _ h2,h3⟩
   ·cases hr
  ·cases hr
 ·cases hr
theorem HF {cf Vh:fk} {rf Vi:eD} (H:Aw cf Vh) (G:ze rf Vi) {o:Oper} {f:AF} {h:ah} {r:Zp} (hr:eM E base cf rf o f h=some r):eM E base Vh Vi o f h=some r:=by
 unfold eM at hr ⊢;cases hv:aO E f o with
 |some v=>rw[hv]at hr;exact hr
 |none=>
  rw[hv]at hr;simp only at hr ⊢;cases hq:bP E f o with
  |some q=>rw[hq]at hr;exact hr
  |none=>
   rw[hq]at hr;simp only at hr ⊢;cases hm:bt E f o with
   |some m=>rw[hm]at hr;exact hr
   |none=>
    rw[hm]at hr;simp only at hr ⊢;cases he:dk E base f o h with
    |none=>rw[he]at hr;cases hr
    |some p=>
     rw[he]at hr;obtain⟨x,h'⟩:=p;cases x with
     |val v=>exact hr
     |enter g args=>
      simp only[Option.bind_eq_some_iff]at hr ⊢;obtain⟨q,h1,h2⟩:=hr;exact⟨q,H _ _ _ _ h1,h2⟩
     |round l args=>
      simp only[Option.bind_eq_some_iff]at hr ⊢;obtain⟨q,h1,h2⟩:=hr;exact⟨q,G _ _ _ _ h1,h2⟩
theorem E8 {cf Vh:fk} {rf Vi:eD} (H:Aw cf Vh) (G:ze rf Vi) {ops:List Oper}:∀{rest:List Oper} {f:AF} {h:ah} {r:AF×ah},kN E base cf rf ops rest f h=some r→kN E base Vh Vi ops rest f h=some r
 |[],f,h,r,hr=>hr
 |o::rest,f,h,r,hr=>by
  unfold kN at hr ⊢;split at hr
  ·simp only[Option.bind_eq_some_iff]at hr ⊢;obtain⟨q,h1,h2⟩:=hr;exact⟨q,HF H G h1,E8 H G h2⟩
  ·exact E8 H G hr
theorem Ay {cf Vh:fk} {rf Vi:eD} (H:Aw cf Vh) (G:ze rf Vi) {ops:List Oper}:∀{rest:List Oper} {f:AF} {h:ah} {r:AF×ah×List eK},kE E base cf rf ops rest f h=some r→kE E base Vh Vi ops rest f h=some r
 |[],f,h,r,hr=>hr
 |o::rest,f,h,r,hr=>by
  unfold kE at hr ⊢;split at hr
  ·simp only[Option.bind_eq_some_iff]at hr ⊢;obtain⟨q,h1,q2,h2,h3⟩:=hr;exact⟨q,HF H G h1,q2,Ay H G h2,h3⟩
  ·simp only[Option.bind_eq_some_iff]at hr ⊢;obtain⟨q2,h2,h3⟩:=hr;exact⟨q2,Ay H G h2,h3⟩
theorem Kk {run run':BV} (H:HE run run') {ops:Array Oper} {draw:Bool} {f:AF} {h:ah} {r:Ex×AF×ah} (hr:kO E base run ops draw f h=some r):kO E base run' ops draw f h=some r:=by
 unfold kO at hr ⊢;split at hr
 ·simp only[Option.bind_eq_some_iff]at hr ⊢;obtain⟨q,h1,h2⟩:=hr;exact⟨q,E8 (sc H) (Ax H) h1,h2⟩
 ·simp only[Option.bind_eq_some_iff,aj]at hr ⊢;obtain⟨h0,q,h1,h2⟩:=hr;exact⟨h0,q,Ay (sc H) (Ax H) h1,h2⟩
theorem HK:∀{n m:Nat},n≤m→HE (aN E base n) (aN E base m)
 |0,m,_=>fun c f h r hr=>by simp[aN]at hr
 |n+1,0,h=>by omega
 |n+1,m+1,hnm=>by
  have ih:HE (aN E base n) (aN E base m):=HK om;intro c f h r hr;unfold aN at hr ⊢;cases c with
  |skip=>exact hr
  |region id ops draw=>exact Kk ih hr
  |seq a b=>
   simp only at hr ⊢;cases hx:aN E base n a f h with
   |none=>rw[hx]at hr;cases hr
   |some q=>
    rw[hx]at hr;rw[ih _ _ _ _ hx];obtain⟨ex,f',h'⟩:=q;cases ex with
    |normal=>exact ih _ _ _ _ hr
    |exit id=>exact hr
    |ret=>exact hr
  |cond c t e=>
   simp only[Option.bind_eq_some_iff]at hr ⊢;obtain⟨v,h1,b,h2,h3⟩:=hr;refine⟨v,h1,b,h2,?_⟩;cases b<;>exact ih _ _ _ _ h3
  |block id b=>
   simp only at hr ⊢;cases hx:aN E base n b f h with
   |none=>rw[hx]at hr;cases hr
   |some q=>rw[hx]at hr;rw[ih _ _ _ _ hx];exact hr
  |loop b=>
   simp only at hr ⊢;cases hx:aN E base n b f h with
   |none=>rw[hx]at hr;cases hr
   |some q=>
    rw[hx]at hr;rw[ih _ _ _ _ hx];obtain⟨ex,f',h'⟩:=q;cases ex with
    |normal=>exact ih _ _ _ _ hr
    |exit id=>exact hr
    |ret=>exact hr
  |exit id=>exact hr
  |ret=>exact hr
  |rangeFunc g ps gS body=>
   simp only[Option.bind_eq_some_iff,aj]at hr ⊢;obtain⟨g',h1,h2,h3⟩:=hr;refine⟨g',h1,h2,?_⟩;split at h3
   ·simp only[Option.bind_eq_some_iff]at h3 ⊢;obtain⟨q,h4,h5⟩:=h3;refine⟨q,sc ih _ _ _ _ h4,?_⟩;split at h5
    ·rw[aj]at h5 ⊢;refine⟨h5.1,?_⟩;obtain⟨_,h5⟩:=h5;split at h5
     ·exact h5
     ·exact ih _ _ _ _ h5
    ·cases h5
   ·cases h3
  |_=>exact hr
theorem Az {n m:Nat} (h:n≤m):Aw (fW E base n) (fW E base m):=sc (HK h)
end
end Go.M
