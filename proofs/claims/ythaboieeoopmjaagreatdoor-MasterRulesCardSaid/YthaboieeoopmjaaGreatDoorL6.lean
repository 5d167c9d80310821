/-
  Part 6 of the library that the proof leans on.
-/
import Derived.Test.YthaboieeoopmjaaGreatDoorL5
namespace Go.M
open Go
section
variable {X:Cx} {ρ ρ':Gh} {F:Nat→Prop} {o o':Ob} {c c':Nat} {h h':ae}
theorem ext_get {f ba t0 gA:Nat} {c0 cs:List Value} (hf:h.get f=some (.cells c0 f t0 gA)) (b:Nat):(eW h f ba cs).get b=if b=h.size then some (.cells cs f 0 0)else if b=f then some (.cells c0 f h.size ba)else h.get b:=by
 unfold eW;rw[ae.au,e6,bO,hf]
theorem sY {f ba:Nat} {cs:List Value}:(eW h f ba cs).size=h.size+1:=by unfold eW;rw[ae.size_push,e6]
theorem Wa (W:Wf h) {f ba t0 gA:Nat} {c0 cs:List Value} (hf:h.get f=some (.cells c0 f t0 gA)):Wf (eW h f ba cs):=by
 have xn:=W.lt hf;refine⟨fun b hb=>?_,fun b cs' f' t th hg=>?_⟩
 ·rw[sY]at hb;rw[ext_get hf,if_neg om,if_neg om];exact W.high b om
 ·rw[ext_get hf]at hg;split at hg
  ·cases hg;omega
  ·split at hg
   ·cases hg;omega
   ·exact W.le _ _ _ _ _ hg
theorem Wb {f ba t0 gA:Nat} {c0 cs:List Value} (hf:h.get f=some (.cells c0 f t0 gA)) {b:Nat} (hb:b<h.size):hd (eW h f ba cs) b=hd h b:=by
 unfold hd;rw[ext_get hf,if_neg om];by_cases e:b=f
 ·subst e;rw[if_pos rfl,hf]
 ·rw[if_neg e]
theorem Ol (W:Wf h) {f t0 ba:Nat} {c0 cs:List Value} (hf:h.get f=some (.cells c0 f t0 ba)) {b:Nat} {l:List Value} (hr:h.rd b=some l):(eW h f ba cs).rd b=some l:=by
 obtain⟨r,h1,h2,h3⟩:=rd_some hr;obtain⟨f1,t1,zN,hg⟩:=dK h3;obtain⟨cr,qH⟩:=bX h1;obtain⟨uc,q1,q2,xj⟩:=dO h1;rw[hg]at xj;cases xj;have hb:=W.lt hg;have xn:=W.lt qH;have qG:∃t th,(eW h f ba cs).get b=some (.cells l r.1 t th):=by
  rw[ext_get hf,if_neg om];by_cases e:b=f
  ·rw[if_pos e];subst e;rw[hg]at hf;cases hf;exact⟨_,_,rfl⟩
  ·rw[if_neg e,hg];exact⟨_,_,rfl⟩
 obtain⟨t,th,qG⟩:=qG;by_cases e:r.1=f
 ·have vo:(eW h f ba cs).get r.1=some (.cells cr r.1 h.size r.2.2):=by
   have hf2:=hf;rw[←e,qH]at hf2;simp only[Option.some.injEq,fk.cells.injEq]at hf2;rw[ext_get hf,if_neg om,if_pos e,hf2.1,hf2.2.2.2,e]
  exact eK (cB qG vo) h2 (aR qG)
 ·have vo:(eW h f ba cs).get r.1=some (.cells cr r.1 r.2.1 r.2.2):=by rw[ext_get hf,if_neg om,if_neg e,qH]
  exact eK (cB qG vo) h2 (aR qG)
theorem dS {S:Ft} {x:Nat} {w:Bool} (h:(x,w)∈S):x∈dI S:=List.mem_map.2 ⟨_,h,rfl⟩
theorem jx {f:Nat} (W:Wf h) (same:∀x,x<h.size→hd h x≠f→h'.get x=h.get x) {b:Nat} {cs:List Value} (bD:hd h b≠f) (hr:h.rd b=some cs):h'.rd b=some cs:=by
 obtain⟨r,h1,h2,h3⟩:=rd_some hr;obtain⟨f1,t1,zN,hg⟩:=dK h3;obtain⟨cr,qH⟩:=bX h1;obtain⟨uc,q1,q2,xj⟩:=dO h1;rw[hg]at xj;cases xj;rw[cb hg]at bD;have a1:=same b (W.lt hg) (by rw[cb hg];exact bD);have a2:=same r.1 (W.lt qH) (by rw[cb qH];exact bD);exact eK (cB (a1.trans hg) (a2.trans qH)) h2 (aR (a1.trans hg))
theorem Mem.ZN (H:Mem X ρ F o c h) {S:Nat→Ft} (K:MO X ρ F o c h S) {m z l len':Nat} {w:Bool} (dh:Nat) {y y':TO} {Sq:Ft} (hl:look o m=some y) {b f t0 gA ba:Nat} {cs cs':List Value} (hS:S m=(f,w)::Sq) (hb:ρ m=some (.arr b z l)) (hg:h.get b=some (.cells cs f t0 gA))
 (hf:h.dJ b=some (f,b,ba)) (_:ba≤b) (NL:dh≤h.size) (hw9:dh=ba∨w=true):
 let h':=eW h f dh cs'
 let ρ':=cC (cC ρ m none) c (some (.arr h.size z len'))
 let F':=fun x=>F x∨(w=false∧x=h.size)
 (wO:(∀t v,VR c ρ F h t v→VR (c+1) ρ' F' h' t v)→(∀b,b<h.size→¬(hd h b=f)→h'.get b=h.get b)→(∀b cs,F b→h.rd b=some cs→h'.rd b=some cs)→h'.get h.size=some (.cells cs' f 0 0)→h'.dJ h.size=some (f,h.size,dh)→OR (c+1) ρ' F' h' X.base c ((f,w)::Sq) y')→
 Mem X ρ' F' ((c,y')::fq o m) (c+1) h'∧∀t v,VR c ρ F h t v→VR (c+1) ρ' F' h' t v:=by
 intro h' ρ' F' wO;have hm:=H.lt hl;obtain⟨c0,cF⟩:=bX hf;simp only at cF;have xn:=H.wf.lt cF;have zS:f∈dI (S m):=by rw[hS];exact List.mem_cons_self
 have qX:=K.fv m _ f hl zS;have JM:=K.DZ m _ hl;have fw:∀n,n≠m→n≠c→ρ' n=ρ n:=fun n h1 h2=>by simp only[ρ'];rw[bG _ _ h2,bG _ _ h1]
 have hA:∀n l,n<c→ρ' n=some l→ρ n=some l:=fun n l hn h1=>by
  by_cases e:n=m
  ·subst e;simp only[ρ']at h1;rw[bG _ _ om,aM]at h1;cases h1
  ·rwa [fw n e om]at h1
 have hB:∀n b,ρ n=some (.di b)→ρ' n=some (.di b):=fun n b' hn=>by
  have:=H.names _ _ hn;by_cases e:n=m
  ·subst e;rw[hb]at hn;cases hn
  ·rwa [fw n e om]
 have qW:∀b,F b→F' b:=fun b hb=>.inl hb;have ZO:∀b,b<h.size→hd h b≠f→h'.get b=h.get b:=fun b' cp hx=>by
  simp only[h'];rw[ext_get cF,if_neg om,if_neg];intro e;subst e;exact hx (cb cF)
 have db:∀b cs,F b→h.rd b=some cs→h'.rd b=some cs:=fun b cs hb hr=>by
  rcases hw9 with e|e
  ·simp only[h'];rw[e];exact Ol H.wf cF hr
  ·exact jx H.wf ZO (K.apart m _ f b hl (by rw[hS,e];exact List.mem_cons_self) hb) hr
 have EH:∀t v,VR c ρ F h t v→VR (c+1) ρ' F' h' t v:=fun t v=>VR.mono om hA hB qW db;have ur:h'.get h.size=some (.cells cs' f 0 0):=by simp only[h'];rw[ext_get cF,if_pos rfl]
 have Wc:h'.get f=some (.cells c0 f h.size dh):=by simp only[h'];rw[ext_get cF,if_neg om,if_pos rfl]
 have G0:=H.wf.lt hg;have ac2:(h'.rd h.size)=some cs':=eK (cB ur Wc) (by simp only;omega) (aR ur);have same:∀b,b<h.size→¬(hd h b=f)→h'.get b=h.get b:=fun b' cp hx=>by
  simp only[h'];rw[ext_get cF,if_neg om,if_neg];intro e;subst e;exact hx (cb cF)
 have vB:∀n y1,n≠c→look ((c,y')::fq o m) n=some y1→n≠m∧look o n=some y1:=fun n y1 bD hy=>by
  rw[aQ,if_neg (fun e=>bD e.symm),dD]at hy;by_cases e:n=m
  ·rw[if_pos e]at hy;cases hy
  ·rw[if_neg e]at hy;exact⟨e,hy⟩
 refine H.change K (fun x=>x=f) c y' ((f,w)::Sq) (by simp only[h'];rw[sY];omega) (Wa H.wf cF) (fun x hx=>by subst hx;exact qX.2.2)
  same db (fun b' cp=>Wb cF cp) qW (fun b' cp hn=>?_) om hA hB (fun n l hn=>?_) (fun n y1 bD hy=>?_) (fun y1 hy=>?_) (wO EH same db ur (cB ur Wc)) (by rw[←hS];exact JM) (fun x hx=>?_) fun x b' hx cp=>?_
 ·rcases cp with cp|⟨hw,rfl⟩
  ·exact absurd cp hn
  ·refine⟨by rw[ac2];rfl,fun n y1 x bD hy hx e=>?_,fun x hx e=>?_,by rw[cb ur];exact qX.2.2⟩
   ·rw[cb ur]at e;subst e;obtain⟨h1,h2⟩:=vB n y1 bD hy;exact h1 (K.fu n m y1 _ _ h2 hl (dS hx) zS)
   ·rw[cb ur]at e;subst e;rw[hS]at JM;simp only[dI,List.map_cons,List.nodup_cons]at JM;rcases List.mem_cons.1 hx with e|hx
    ·simp only[Prod.mk.injEq]at e;rw[hw]at e;exact absurd e.2 (by simp)
    ·exact JM.1 (List.mem_map.2 ⟨_,hx,rfl⟩)
 ·by_cases e:n=c
  ·omega
  ·by_cases e2:n=m
   ·omega
   ·rw[fw n e2 e]at hn;have:=H.names _ _ hn;omega
 ·obtain⟨h1,h2⟩:=vB n y1 bD hy;refine⟨h2,fw n h1 bD,fun x hx e=>?_⟩;subst e;exact h1 (K.fu n m y1 _ x h2 hl hx zS)
 ·rw[aQ,if_pos rfl,Option.some.injEq]at hy;exact hy.symm
 ·rw[←hS]at hx;obtain⟨q1,q2,q3⟩:=K.fv m _ x hl hx;refine⟨q1,by simp only[h'];rw[sY];omega,q3,fun n y1 bD hy hh=>?_⟩;obtain⟨h1,h2⟩:=vB n y1 bD hy;exact h1 (K.fu n m y1 _ x h2 hl hh hx)
 ·rw[←hS]at hx;exact K.apart m _ x b' hl hx cp
theorem SB {b f t0 gA t1 zN:Nat} {c0 c1:List Value} (hg:h.get b=some (.cells c0 f t0 gA)) (hf:h.get f=some (.cells c1 f t1 zN)) (cs':List Value) (x:Nat):
 ((h.setCells b cs').cy f b b).get x=if x=f then some (.cells (if f=b then cs' else c1) f b b)else if x=b then some (.cells cs' f t0 gA)else h.get x:=by
 rw[bO,cq,cq,hg];by_cases e:f=b
 ·subst e;simp
 ·simp[e,hf]
theorem EI (b f:Nat) (cs':List Value):((h.setCells b cs').cy f b b).size=h.size:=by rw[e6,gI]
theorem JN {base b f ba t0 gA:Nat} {c0 cs':List Value} (_:h.get b=some (.cells c0 f t0 gA)) (hf:h.dJ b=some (f,b,ba)) (h1:base≤b) (h2:base≤f):
 h.wr base b cs'=some ((h.setCells b cs').cy f b b):=by
 unfold ae.wr;rw[hf];simp[bI,aT.2 h1,aT.2 h2]
structure ac3 (h:ae) (b f:Nat) (cs':List Value) (h':ae):Prop where
 size:h'.size=h.size
 wf:Wf h'
 self:∃t th,h'.get b=some (.cells cs' f t th)
 dJ:h'.dJ b=some (f,b,b)
 same:∀x,x<h.size→hd h x≠f→h'.get x=h.get x
 dI:∀x,hd h' x=hd h x
theorem CX (W:Wf h) {b f ba t0 gA:Nat} {c0 cs':List Value} (hg:h.get b=some (.cells c0 f t0 gA)) (hf:h.dJ b=some (f,b,ba)):ac3 h b f cs' ((h.setCells b cs').cy f b b):=by
 obtain⟨cr,cF⟩:=bX hf;simp only at cF;have hb:=W.lt hg;have xn:=W.lt cF;have hle:=W.le _ _ _ _ _ hg;have get:=fun x=>SB hg cF cs' x;have Wc:((h.setCells b cs').cy f b b).get f=some (.cells (if f=b then cs' else cr) f b b):=by
  rw[get,if_pos rfl]
 have qG:∃t th,((h.setCells b cs').cy f b b).get b=some (.cells cs' f t th):=by
  by_cases e:b=f
  ·subst e;exact⟨b,b,by rw[Wc,if_pos rfl]⟩
  ·rw[get,if_neg e,if_pos rfl];exact⟨_,_,rfl⟩
 obtain⟨t,th,qG⟩:=qG;have CY:∀x,x≠f→x≠b→((h.setCells b cs').cy f b b).get x=h.get x:=fun x h1 h2=>by rw[get,if_neg h1,if_neg h2]
 refine⟨EI _ _ _,⟨fun x hx=>?_,fun x uc f1 t1 zN hx=>?_⟩,⟨t,th,qG⟩,cB qG Wc,fun x hx bD=>?_,fun x=>?_⟩
 ·rw[EI]at hx;rw[CY x om om];exact W.high x hx
 ·by_cases e1:x=f
  ·subst e1;rw[Wc]at hx;cases hx;exact Nat.le_refl _
  ·by_cases e2:x=b
   ·subst e2;rw[qG]at hx;cases hx;exact hle
   ·rw[CY x e1 e2]at hx;exact W.le _ _ _ _ _ hx
 ·refine CY x (fun e=>?_) (fun e=>?_)
  ·subst e;exact bD (cb cF)
  ·subst e;exact bD (cb hg)
 ·by_cases e1:x=f
  ·subst e1;rw[cb Wc,cb cF]
  ·by_cases e2:x=b
   ·subst e2;rw[cb qG,cb hg]
   ·unfold hd;rw[CY x e1 e2]
theorem Mem.set (H:Mem X ρ F o c h) {S:Nat→Ft} (K:MO X ρ F o c h S) {m:Nat} {y y':TO} {S0:Ft} (hl:look o m=some y) {f:Nat} (hf:(f,true)∈S m) (nT:∀p∈S0,p∈S m) (tW:(dI S0).Nodup) (fO:h'.size=h.size) (GZ:Wf h')
 (same:∀x,x<h.size→hd h x≠f→h'.get x=h.get x) (Wd:∀x,hd h' x=hd h x)
 (wO:(∀t v,VR c ρ F h t v→VR c ρ F h' t v)→(∀b cs,F b→h.rd b=some cs→h'.rd b=some cs)→OR c ρ F h' X.base m S0 y'):
 Mem X ρ F (eX o m y') c h'∧∀t v,VR c ρ F h t v→VR c ρ F h' t v:=by
 have qX:=K.fv m y f hl (dS hf);have db:∀b cs,F b→h.rd b=some cs→h'.rd b=some cs:=fun b cs hb hr=>jx H.wf same (K.apart m y f b hl hf hb) hr;have EH:∀t v,VR c ρ F h t v→VR c ρ F h' t v:=fun t v=>VR.mono (Nat.le_refl _) (fun _ _ _ hx=>hx) (fun _ _ hx=>hx) (fun _ hb=>hb) db;have ND:∀x∈dI S0,x∈dI (S m):=fun x hx=>by
  obtain⟨p,hp,rfl⟩:=List.mem_map.1 hx;exact List.mem_map.2 ⟨p,nT p hp,rfl⟩
 have oz:∀n y1,n≠m→look (eX o m y') n=some y1→look o n=some y1:=fun n y1 bD hy=>by rwa [eo,if_neg bD]at hy
 refine H.change K (fun x=>x=f) m y' S0 om GZ (fun x hx=>by subst hx;exact qX.2.2) (fun b hb hx=>same b hb hx) db (fun b _=>Wd b) (fun _ hb=>hb) (fun _ hb hn=>absurd hb hn) (Nat.le_refl _) (fun _ _ _ hx=>hx) (fun _ _ hx=>hx) H.names
  (fun n y1 bD hy=>?_) (fun y1 hy=>?_) (wO EH db) tW (fun x hx=>?_) fun x b hx hb=>K.apart m y x b hl (nT _ hx) hb
 ·refine⟨oz n y1 bD hy,rfl,fun x hx e=>?_⟩;subst e;exact bD (K.fu n m y1 y x (oz n y1 bD hy) hl hx (dS hf))
 ·rw[eo,if_pos rfl,hl]at hy;simp at hy;exact hy.symm
 ·obtain⟨q1,q2,q3⟩:=K.fv m y x hl (ND x hx);exact⟨q1,om,q3,fun n y1 bD hy hh=>bD (K.fu n m y1 y x (oz n y1 bD hy) hl hh (ND x hx))⟩
def oL (ρ:Gh) (c:Nat) (ls:List Loc):Gh:=fun n=>if n<c then ρ n else ls[n - c]?
theorem fx (ρ:Gh) {c n:Nat} (ls:List Loc) (h:n<c):oL ρ c ls n=ρ n:=if_pos h
theorem sZ (ρ:Gh) (c i:Nat) (ls:List Loc):oL ρ c ls (c+i)=ls[i]? :=by unfold oL;rw[if_neg om];congr 1;omega
theorem uw {base:Nat} {Ss:List Ft} {new:List (Nat×TO)} {ls:List Loc}:∀{k:Nat},EF F h base k Ss new ls→∀n,look new n=if n<k then none else(new[n - k]?).map (·.2):=by
 intro k N;have key:∀(new:List (Nat×TO)) (k:Nat),(∀(i:Nat) p,new[i]? =some p→p.1=k+i)→∀n,look new n=if n<k then none else(new[n - k]?).map (·.2):=by
  intro new
  induction new with
  |nil=>intro k _ n;simp[look]
  |cons p l ih=>
   intro k hk n;have h0:=hk 0 p rfl;rw[aQ];have ih':=ih (k+1) (fun i q hq=>by have:=hk (i+1) q (by simpa using hq);omega) n;by_cases e:p.1=n
   ·rw[if_pos e,if_neg om];have:n - k=0:=by omega
    rw[this];rfl
   ·rw[if_neg e,ih'];by_cases e1:n<k
    ·rw[if_pos om,if_pos e1]
    ·rw[if_neg om,if_neg e1];have:n - k=(n - (k+1))+1:=by omega
     rw[this,List.getElem?_cons_succ]
 exact key new k fun i p hp=>(N.nth i p hp).1
theorem Mem.opens (H:Mem X ρ F o c h) {S:Nat→Ft} (K:MO X ρ F o c h S) {m0:Nat} {y0 y1:TO} {S0:Ft} {Ss:List Ft} {new:List (Nat×TO)} {ls:List Loc} (hl:look o m0=some y0) (N:EF F h X.base c Ss new ls) (hp:(S m0).Perm (S0++Ss.flatten))
 (wO:(∀t v,VR c ρ F h t v→VR (c+new.length) (oL ρ c ls) F h t v)→OR (c+new.length) (oL ρ c ls) F h X.base m0 S0 y1):
 Mem X (oL ρ c ls) F (new++eX o m0 y1) (c+new.length) h∧∀t v,VR c ρ F h t v→VR (c+new.length) (oL ρ c ls) F h t v:=by
 have hA:∀n l,n<c→oL ρ c ls n=some l→ρ n=some l:=fun n l hn h1=>by rwa [fx _ _ hn]at h1
 have hB:∀n b,ρ n=some (.di b)→oL ρ c ls n=some (.di b):=fun n b h1=>by rw[fx _ _ (H.names _ _ h1)];exact h1
 have hm:∀t v,VR c ρ F h t v→VR (c+new.length) (oL ρ c ls) F h t v:=fun t v=>VR.mono om hA hB (fun _ h=>h) (fun _ _ _ h=>h);have Hg:=H.lt hl
 let S':Nat→Ft:=fun n=>if n<c then(if n=m0 then S0 else S n)else(Ss[n - c]?).getD []
 have s0:S' m0=S0:=(if_pos Hg).trans (if_pos rfl);have s1:∀n,n<c→n≠m0→S' n=S n:=fun n h1 h2=>(if_pos h1).trans (if_neg h2);have s2:∀i:Nat,S' (c+i)=(Ss[i]?).getD []:=fun i=>(if_neg om).trans (by rw[Nat.add_sub_cancel_left]);have hpm:(dI (S m0)).Perm (dI S0++dI Ss.flatten):=by rw[←qd];exact hp.map _
 have tW:(dI S0++dI Ss.flatten).Nodup:=hpm.nodup_iff.1 (K.DZ m0 _ hl);have inS:∀(i:Nat) Q,Ss[i]? =some Q→∀p∈Q,p∈S m0:=fun i Q hQ p hpQ=>hp.mem_iff.2 (List.mem_append_right _ (List.mem_flatten.2 ⟨Q,List.mem_of_getElem? hQ,hpQ⟩))
 -- where an object comes from
 have lL:∀n y,look (new++eX o m0 y1) n=some y→(n=m0∧y=y1)∨(n<c∧n≠m0∧look o n=some y)∨∃(i:Nat) (Q:Ft) (l:Loc),n=c+i∧Ss[i]? =some Q∧ls[i]? =some l∧CR F h X.base Q (.o y l):=by
  intro n y hn;rw[jN,uw N]at hn;by_cases hc:n<c
  ·rw[if_pos hc]at hn;simp only at hn;rw[eo]at hn;by_cases e:n=m0
   ·rw[if_pos e,hl]at hn;simp at hn;exact .inl ⟨e,hn.symm⟩
   ·rw[if_neg e]at hn;exact .inr (.inl ⟨hc,e,hn⟩)
  ·rw[if_neg hc]at hn;cases hq:new[n - c]? with
   |none=>
    rw[hq]at hn;simp only[Option.map_none]at hn;rw[eo,if_neg om]at hn;exact absurd (H.lt hn) hc
   |some p=>
    rw[hq]at hn;simp only[Option.map_some,Option.some.injEq]at hn;subst hn;obtain⟨_,Q,l,h1,h2,h3⟩:=N.nth _ _ hq;exact .inr (.inr ⟨n - c,Q,l,om,h1,h2,h3⟩)
 have UT:∀n y,look (new++eX o m0 y1) n=some y→∀p∈S' n,(n<c∧n≠m0∧p∈S n∧look o n=some y)∨p∈S m0:=by
  intro n y hn p Rv;rcases lL n y hn with⟨rfl,_⟩|⟨h1,h2,h3⟩|⟨i,Q,l,rfl,h1,_,_⟩
  ·rw[s0]at Rv;exact .inr (hp.mem_iff.2 (List.mem_append_left _ Rv))
  ·rw[s1 n h1 h2]at Rv;exact .inl ⟨h1,h2,Rv,h3⟩
  ·rw[s2,h1]at Rv;exact .inr (inS i Q h1 p Rv)
 refine⟨⟨⟨S',fun n y hn=>?_,fun n y hn=>?_,fun n1 n2 z1 z2 x h1 h2 k1 k2=>?_,fun n y x hn hx=>?_,fun n y x b hn hx hb=>?_⟩,fun n l hn=>?_,H.frozen,H.F0,H.wf,H.oQ,H.lK,H.CV,?_,fun k l hk hl=>?_,fun k b hk hb=>?_⟩,hm⟩
 ·rcases lL n y hn with⟨rfl,rfl⟩|⟨h1,h2,h3⟩|⟨i,Q,l,rfl,h1,h2,h3⟩
  ·rw[s0];exact wO hm
  ·rw[s1 n h1 h2];exact(K.b9 n y h3).bw (T:=fun _=>False) H.wf (fun _ _ _=>rfl) (fun _ _ hf=>hf.elim) (fun _ h=>h) (fun _ _ _ h=>h) hm (fx _ _ h1)
  ·rw[s2,h1];exact OR.sW h3 (by rw[sZ];exact h2)
 ·rcases lL n y hn with⟨rfl,rfl⟩|⟨h1,h2,h3⟩|⟨i,Q,l,rfl,h1,h2,h3⟩
  ·rw[s0];exact(List.nodup_append.1 tW).1
  ·rw[s1 n h1 h2];exact K.DZ n y h3
  ·rw[s2,h1];have:(Q.map (·.1)).Sublist (dI Ss.flatten):=(List.sublist_flatten_of_mem (List.mem_of_getElem? h1)).map _;exact this.nodup (List.nodup_append.1 tW).2.1
 ·have idx:∀(i j:Nat) (Q R:Ft) (x:Nat),Ss[i]? =some Q→Ss[j]? =some R→x∈dI Q→x∈dI R→i=j:=by
   have xn:(Ss.map dI).flatten.Nodup:=by
    have:=(List.nodup_append.1 tW).2.1;unfold dI at this;rw[List.map_flatten]at this;exact this
   intro i j Q R x hi hj hxi hxj;have pw:=List.pairwise_iff_getElem.1 (List.pairwise_flatten.1 xn).2;have key:∀(i j:Nat) (Q R:Ft),Ss[i]? =some Q→Ss[j]? =some R→x∈dI Q→x∈dI R→i<j→False:=fun i j Q R hi hj hxi hxj aU=>by
    have li:=(List.getElem?_eq_some_iff.1 hi);have lj:=(List.getElem?_eq_some_iff.1 hj);refine pw i j (by simpa using li.1) (by simpa using lj.1) aU x ?_ x ?_ rfl
    ·rw[List.getElem_map,li.2];exact hxi
    ·rw[List.getElem_map,lj.2];exact hxj
   rcases Nat.lt_trichotomy i j with aU|heq|aU
   ·exact(key i j Q R hi hj hxi hxj aU).elim
   ·exact heq
   ·exact(key j i R Q hj hi hxj hxi aU).elim
  have dis:∀x,x∈dI S0→∀(i:Nat) (Q:Ft),Ss[i]? =some Q→x∈dI Q→False:=fun x h1 i Q h2 h3=>by
   refine(List.nodup_append.1 tW).2.2 x h1 x ?_ rfl;obtain⟨p,ZP,rfl⟩:=List.mem_map.1 h3;exact List.mem_map.2 ⟨p,List.mem_flatten.2 ⟨Q,List.mem_of_getElem? h2,ZP⟩,rfl⟩
  have inm:∀(x i:Nat) (Q:Ft),Ss[i]? =some Q→x∈dI Q→x∈dI (S m0):=fun x i Q h1 h2=>by
   obtain⟨p,ZP,rfl⟩:=List.mem_map.1 h2;exact List.mem_map.2 ⟨p,inS i Q h1 p ZP,rfl⟩
  have in0:∀x,x∈dI S0→x∈dI (S m0):=fun x hx=>hpm.mem_iff.2 (List.mem_append_left _ hx);rcases lL n1 z1 h1 with⟨rfl,_⟩|⟨a1,a2,a3⟩|⟨i,Q,l,rfl,a1,_,_⟩<;>rcases lL n2 z2 h2 with⟨rfl,_⟩|⟨b1,b2,b3⟩|⟨j,R,l',rfl,b1,_,_⟩
  ·rfl
  ·rw[s0]at k1;rw[s1 _ b1 b2]at k2;exact absurd (K.fu _ _ _ _ x hl b3 (in0 x k1) k2).symm b2
  ·rw[s0]at k1;rw[s2,b1]at k2;exact(dis x k1 j R b1 k2).elim
  ·rw[s1 _ a1 a2]at k1;rw[s0]at k2;exact absurd (K.fu _ _ _ _ x a3 hl k1 (in0 x k2)) a2
  ·rw[s1 _ a1 a2]at k1;rw[s1 _ b1 b2]at k2;exact K.fu _ _ _ _ x a3 b3 k1 k2
  ·rw[s1 _ a1 a2]at k1;rw[s2,b1]at k2;exact absurd (K.fu _ _ _ _ x a3 hl k1 (inm x j R b1 k2)) a2
  ·rw[s2,a1]at k1;rw[s0]at k2;exact(dis x k2 i Q a1 k1).elim
  ·rw[s2,a1]at k1;rw[s1 _ b1 b2]at k2;exact absurd (K.fu _ _ _ _ x hl b3 (inm x i Q a1 k1) k2).symm b2
  ·rw[s2,a1]at k1;rw[s2,b1]at k2;rw[idx i j Q R x a1 b1 k1 k2]
 ·obtain⟨p,ZP,rfl⟩:=List.mem_map.1 hx;rcases UT n y hn p ZP with⟨_,_,h3,h4⟩|h3
  ·exact K.fv n y _ h4 (dS h3)
  ·exact K.fv m0 _ _ hl (dS h3)
 ·rcases UT n y hn _ hx with⟨_,_,h3,h4⟩|h3
  ·exact K.apart n y x b h4 h3 hb
  ·exact K.apart m0 _ x b hl h3 hb
 ·by_cases hc:n<c
  ·omega
  ·unfold oL at hn;rw[if_neg hc]at hn;have:=(List.getElem?_eq_some_iff.1 hn).1;have:=N.l2;omega
 ·have:=H.CW.1;omega
 ·exact H.CW.2.1 k l hk (hA k l (Nat.lt_of_lt_of_le hk H.CW.1) hl)
 ·exact hB k b (H.CW.2.2 k b hk hb)
theorem Mem.share (H:Mem X ρ F o c h) (m:Nat):∃F',Mem X ρ F' (iW o m) c h∧(∀t v,VR c ρ F h t v→VR c ρ F' h t v)∧(∀b,F b→F' b)∧
 ∀z w es v,look o m=some (.arr z w es)→VR c ρ F h (.tk m) v→VR c ρ F' h (.sl z es false) v:=by
 unfold iW;split
 ·rename_i z w es hl;obtain⟨S,K⟩:=H.ex;have hO:=K.b9 m _ hl;have oz:∀n y,n≠m→look (eX o m (.arr z false es)) n=some y→look o n=some y:=fun n y bD hy=>by rwa [eo,if_neg bD]at hy
  have hsf:∀y',look (eX o m (.arr z false es)) m=some y'→y'= .arr z false es:=fun y' hy=>by rw[eo,if_pos rfl,hl]at hy;simp at hy;exact hy.symm
  cases hS:S m with
  |nil=>
   rw[hS]at hO;cases hO with
   |nil hb hz=>
    obtain⟨M,hm⟩:=H.change K (F':=F) (ρ':=ρ) (c':=c) (h':=h) (o':=eX o m (.arr z false [])) (fun _=>False) m (.arr z false []) [] (Nat.le_refl _) H.wf (fun _ hf=>hf.elim) (fun _ _ _=>rfl) (fun _ _ _ h=>h) (fun _ _=>rfl) (fun _ h=>h) (fun _ h hn=>absurd h hn) (Nat.le_refl _) (fun _ _ _ h=>h) (fun _ _ h=>h) H.names
     (fun n y bD hy=>⟨oz n y bD hy,rfl,fun _ _ hf=>hf.elim⟩) hsf (.nil hb hz) (by simp[dI]) (by simp[dI]) (by simp)
    refine⟨F,M,hm,fun _ h=>h,fun z' w' bM v zT hv=>?_⟩;rw[hl]at zT;cases zT;cases hv with
    |tk hn kD ha h0=>
     rcases h0 _ hb with rfl |⟨b,o',cs,q1,q2,q3,q4,rfl⟩
     ·exact .nil rfl
     ·exact .sl q1 q2 q3 rfl (Nat.le_refl _) (fun h=>by cases h) (by simpa using q4) (by simp) (by simp) fun i j e t v h1=>by simp at h1
  |cons p Sq=>
   have UU:=fun x hx=>K.fv m _ x hl hx;have uq:∀(n:Nat) (y:TO) (x:Nat),n≠m→look o n=some y→x∈dI (S n)→x∈dI (S m)→False:=fun n y x bD hn hx SA=>bD (K.fu n m y _ x hn hl hx SA);rw[hS]at hO UU uq;cases hO with
   |arr hb hg hf ht dX hz hlen he gV hc hF=>
    rename_i b f t0 gA ba cs;have fN:h.rd b=some cs:=eK hf ht (aR hg);have SC:∀t v,VR c ρ F h t v→VR c ρ (fun x=>F x∨x=b) h t v:=fun t v=>VR.mono (Nat.le_refl _) (fun _ _ _ h=>h) (fun _ _ h=>h) (fun _ h=>.inl h) (fun _ _ _ h=>h);have MM:Mem X ρ (fun x=>F x∨x=b) (eX o m (.arr z false es)) c h∧∀t v,VR c ρ F h t v→VR c ρ (fun x=>F x∨x=b) h t v:=by
     refine H.change K (F':=fun x=>F x∨x=b) (ρ':=ρ) (c':=c) (h':=h) (o':=eX o m (.arr z false es)) (fun _=>False) m (.arr z false es) [(f,false)] (Nat.le_refl _) H.wf (fun _ hf=>hf.elim) (fun _ _ _=>rfl) (fun _ _ _ h=>h) (fun _ _=>rfl) (fun _ h=>.inl h)
      (fun b' cp hn=>?_) (Nat.le_refl _) (fun _ _ _ h=>h) (fun _ _ h=>h) H.names
      (fun n y bD hy=>⟨oz n y bD hy,rfl,fun _ _ hf=>hf.elim⟩) hsf (.arr hb hg hf ht dX hz hlen he gV (fun i j e t v q1 q2 q3=>SC _ _ (hc i j e t v q1 q2 q3)) fun _=>.inr rfl) (by simp[dI]) (fun x hx=>?_) (fun x b' hx=>by simp at hx)
     ·rcases cp with cp|rfl
      ·exact absurd cp hn
      ·refine⟨by rw[fN];rfl,fun n y x bD hy hx e=>?_,by simp,?_⟩
       ·rw[cb hg]at e;subst e;exact uq n y _ bD (oz n y bD hy) (dS hx) List.mem_cons_self
       ·rw[cb hg];exact(UU _ List.mem_cons_self).2.2
     ·simp only[dI,List.map_cons,List.map_nil,List.mem_singleton]at hx;subst hx;obtain⟨q1,q2,q3⟩:=UU _ List.mem_cons_self;exact⟨q1,q2,q3,fun n y bD hy hh=>uq n y _ bD (oz n y bD hy) hh List.mem_cons_self⟩
    obtain⟨M,hm⟩:=MM;refine⟨_,M,hm,fun _ h=>.inl h,fun z' w' bM v zT hv=>?_⟩;rw[hl]at zT;cases zT;cases hv with
    |tk hn kD ha h0=>
     obtain⟨cap,h1,rfl⟩:=ha _ _ _ hb;exact .sl (.inr rfl) fN hz rfl h1 (fun h=>by cases h) (by rw[Nat.zero_add];omega) he gV fun i j e t v q1 q2 q3=>hm _ _ (hc i j e t v q1 q2 (by simpa using q3))
 ·rename_i vx;exact⟨F,H,fun _ _ h=>h,fun _ h=>h,fun z w es v hl=>absurd hl (vx z w es)⟩
end
def fy (ids:List (Option Nat)) (zf:Nat→Nat) (ρ:Gh):Gh:=fun n=>match ids[n]? with
 |some (some m)=>ρ m
 |some none=>some (.nil (zf n))
 |none=>none
section
variable {X:Cx} {ρ:Gh} {F:Nat→Prop} {o:Ob} {c:Nat} {h:ae} {ids:List (Option Nat)} {zf:Nat→Nat}
theorem rV {n:Nat} {x:Option Nat} (h:ids[n]? =some x):n<ids.length:=(List.getElem?_eq_some_iff.1 h).1
def TxR (c:Nat) (ρ:Gh) (F:Nat→Prop) (h:ae) (c':Nat) (ρ':Gh):Tx→Tx→Prop
 | .v a,.v b=>∀x,VR c ρ F h a x→VR c' ρ' F h b x
 | .l a,.l b=>∀m,dF c ρ F h a m→dF c' ρ' F h b m
 |_,_=>True
theorem oP.rel (H:Mem X ρ F o c h) {a b:Tx} (L:oP ids o a b):TxR c ρ F h ids.length (fy ids zf ρ) a b:=by
 induction L with
 |s hv=>intro x hx;obtain rfl:=hv.eq;cases hx with|s hp=>exact .s hp
 |sl hz hf he=>
  intro x hx;obtain rfl:=he.eq;simp only[Bool.or_eq_true,beq_iff,Bool.not_eq_true']at hz hf;cases hx with
  |nil he=>exact .nil he
  |sl h1 h2 h3 h4 h5 h6 h7 h8 h9 hc=>
   rcases hz with rfl |rfl
   ·refine .sl h1 h2 h3 h4 h5 (fun h=>h6 ?_) h7 h8 h9 fun i j e t v q1 q2 q3=>(hc i j e t v q1 q2 q3).dp (h9 e (List.mem_of_getElem? q1) t (List.mem_of_getElem? q2));rcases hf with hf|hf
    ·rw[hf]at h;cases h
    ·exact hf
   ·omega
 |new hi=>
  intro x hx;cases hx with
  |nil he=>exact .tk (rV hi) rfl (fun b z len hx=>by simp[fy,hi]at hx) (fun z hx=>.inl rfl)
  |sl h1 h2 h3=>omega
 |tk hi=>
  intro x hx;cases hx with
  |tk hn kD ha h0=>exact .tk (rV hi) kD (fun b z len hx=>ha b z len (by simpa[fy,hi]using hx)) (fun z hx=>h0 z (by simpa[fy,hi]using hx))
 |pv hi he=>
  intro x hx;obtain rfl:=he.eq;cases hx with
  |pv hn kD ha h0=>exact .pv (rV hi) kD (fun b z len hx=>ha b z len (by simpa[fy,hi]using hx)) (fun z hx=>h0 z (by simpa[fy,hi]using hx))
 |look hl he=>
  intro x hx;obtain rfl:=he.eq;obtain⟨S,K⟩:=H.ex;cases hx with
  |tk hn kD ha h0=>
   have hO:=K.b9 _ _ hl;generalize S _=Sm at hO;cases hO with
   |nil hb hz=>
    rcases h0 _ hb with rfl |⟨b,o',cs,q1,q2,q3,q4,rfl⟩
    ·exact .nil rfl
    ·exact .sl q1 q2 q3 rfl (Nat.le_refl _) (fun h=>by cases h) (by simpa using q4) (by simp) (by simp) fun i j e t v h1=>by simp at h1
   |arr hb hg hf ht dX hz hlen he gV hc hF=>
    obtain⟨cap,h1,rfl⟩:=ha _ _ _ hb
    exact .sl (hF rfl) (eK hf ht (aR hg)) hz rfl h1 (fun h=>by cases h) (by rw[Nat.zero_add];omega) he gV
     fun i j e t v q1 q2 q3=>(hc i j e t v q1 q2 (by simpa using q3)).dp (gV e (List.mem_of_getElem? q1) t (List.mem_of_getElem? q2))
 |ptr hi=>intro x hx;cases hx with|ptr hb=>exact .ptr (by simpa[fy,hi]using hb)
 |ep he=>
  intro x hx;obtain rfl:=he.eq;cases hx with
  |ep h1 h2 h3 h4 hc=>exact .ep h1 h2 h3 h4 fun j t v q1 q2=>(hc j t v q1 q2).dp (h4 t (List.mem_of_getElem? q1))
 |mp hi=>intro x hx;cases hx with|mp hb=>exact .mp (by simpa[fy,hi]using hb)
 |bg hi he=>intro x hx;obtain rfl:=he.eq;cases hx with|bg hb=>exact .bg (by simpa[fy,hi]using hb)
 |agg _ ih=>intro x hx;obtain⟨a',rfl,h1⟩:=hx.ff;exact .gC (ih _ h1)
 |c4 _ ih=>intro x hx;obtain⟨a',rfl,h1⟩:=hx.CS;exact .iB (ih _ h1)
 |nz _ ih=>intro x hx;cases hx with|nz qJ=>exact .nz (ih _ qJ)
 |cW _ _ zW zX=>
  intro x hx;cases hx with
  |cW hs ha ht hk=>
   have q1:=zW _ ⟨by rw[Array.length_toList];exact hs,fun i t v q1 q2=>ha i t v q1 (by simpa using q2)⟩;have q2:=zX _ ⟨by rw[Array.length_toList];exact ht,fun i t v q1 q2=>hk i t v q1 (by simpa using q2)⟩;exact .cW (by have:=q1.1;rwa [Array.length_toList]at this) (fun i t v r1 r2=>q1.2 i t v r1 (by simpa using r2)) (by have:=q2.1;rwa [Array.length_toList]at this) (fun i t v r1 r2=>q2.2 i t v r1 (by simpa using r2))
 |j=>intro x _;exact .j _
 |nil=>intro m hm;rw[hm.bC];exact .nil
 |cons _ _ zW zX=>intro m hm;obtain⟨v,m',rfl,h1,h2⟩:=hm.aL;exact .cons (zW _ h1) (zX _ h2)
theorem qe (H:Mem X ρ F o c h) (v v':TV) (x:Value) (L:ZH ids o v v') (hv:VR c ρ F h v x):VR ids.length (fy ids zf ρ) F h v' x:=oP.rel H L x hv
theorem EJ (H:Mem X ρ F o c h) (l l':List TV) (m:List Value) (L:ZI ids o l l') (hv:dF c ρ F h l m):dF ids.length (fy ids zf ρ) F h l' m:=oP.rel H L m hv
theorem e7 {z:Nat}:∀{es:List (List TV)} {i:Nat} {e:List TV},(∀e∈es,e.length=z)→es[i]? =some e→(es.flatten.drop (i*z)).take z=e∧(i+1)*z≤es.flatten.length
 |[],i,e,_,h=>by simp at h
 |a::l,0,e,hz,h=>by
  simp at h;subst h;have:=hz a List.mem_cons_self;simp[this]
 |a::l,i+1,e,hz,h=>by
  have ha:=hz a List.mem_cons_self;obtain⟨h1,h2⟩:=e7 (es:=l) (i:=i) (fun e he=>hz e (List.mem_cons_of_mem _ he)) (by simpa using h);have e1:(i+1)*z=a.length+i*z:=by rw[ha,Nat.add_mul];omega
  refine⟨?_,?_⟩
  ·rw[List.flatten_cons,e1,List.drop_append,List.drop_eq_nil_of_le om];simpa using h1
  ·rw[List.flatten_cons,List.length_append];have e2:(i+1+1)*z=a.length+(i+1)*z:=by rw[ha,Nat.add_mul (i+1)];omega
   omega
theorem jO {z:Nat}:∀{es:List (List TV)} {i:Nat} {e:List TV},(∀e∈es,e.length=z)→i<es.length→(es.set i e).flatten=es.flatten.take (i*z)++(e++(es.flatten.drop (i*z)).drop z)
 |[],i,e,_,h=>by simp at h
 |a::l,0,e,hz,h=>by
  have:=hz a List.mem_cons_self;subst this;simp
 |a::l,i+1,e,hz,h=>by
  have ha:=hz a List.mem_cons_self;have ih:=jO (es:=l) (i:=i) (e:=e) (fun e he=>hz e (List.mem_cons_of_mem _ he)) (by simpa using h);have e1:(i+1)*z=a.length+i*z:=by rw[ha,Nat.add_mul];omega
  rw[List.set_cons_succ,List.flatten_cons,List.flatten_cons,ih,e1,List.take_length_add_append,List.drop_length_add_append,List.append_assoc]
theorem cU.ZQ {base:Nat} {S V:Ft} {l l2:List TV} {m:List Value} (H:cU c ρ F h base S l m) (p n:Nat) (hf:∀S2,cU c ρ F h base S2 ((l.drop p).take n) ((m.drop p).take n)→∃S3,cU c ρ F h base S3 l2 ((m.drop p).take n)∧S3.Perm (S2++V)):
 ∃S',cU c ρ F h base S' (l.take p++(l2++(l.drop p).drop n)) m∧S'.Perm (S++V):=by
 obtain⟨S1,S2,S3,rfl,h1,h2,h3⟩:=H.part p n;obtain⟨S4,h4,h5⟩:=hf S2 h2;refine⟨S1++(S4++S3),?_,?_⟩
 ·have:=h1.join (h4.join h3)
  rwa [List.take_append_drop,List.take_append_drop]at this
 ·refine((h5.append_right S3).append_left S1).trans ?_;rw[List.append_assoc,List.append_assoc,List.append_assoc];exact(((List.perm_append_comm (l₁:=V) (l₂:=S3)).append_left S2)).append_left S1
theorem cU.HS {base:Nat} {S:Ft} {l:List TV} {m:List Value} (H:cU c ρ F h base S l m):(∀t∈l,mX t=true)→CR F h base S (.cs l m):=by
 induction H with
 |nil=>intro _;exact .nil
 |vr hv _ ih=>
  rename_i t v l m _;intro hc;have h1:=hc t List.mem_cons_self;have h2:=ih fun t ht=>hc t (List.mem_cons_of_mem _ ht);have hf:M.fz t=true:=by
   unfold mX at h1;split at h1
   ·cases hv
   ·exact h1
  exact .cons (S:=[]) (.fz hf (hv.dp hf)) h2
 |cl hv _ ih=>intro hc;exact .cons hv (ih fun t ht=>hc t (List.mem_cons_of_mem _ ht))
theorem iC.HS {base kd:Nat} {S:Ft} {l:List (Value×TV)} {m:List MapEntry} (H:iC c ρ F h base kd S l m):(∀e∈l,∀t∈aE e.2,mX t=true)→CR F h base S (.es kd l m):=by
 induction H with
 |nil=>intro _;exact .Lj
 |cons hk jq ha hv _ ih=>intro hc;exact .AS hk jq ha (hv.HS (hc _ List.mem_cons_self)) (ih fun e he=>hc e (List.mem_cons_of_mem _ he))
theorem cU.conv {base c':Nat} {ρ':Gh} {S:Ft} {l:List TV} {m:List Value} (H:cU c ρ F h base S l m) (hc:∀t∈l,mX t=true):cU c' ρ' F h base S l m:=cU.sW (H.HS hc) _ _ rfl
theorem iC.conv {base kd c':Nat} {ρ':Gh} {S:Ft} {l:List (Value×TV)} {m:List MapEntry} (H:iC c ρ F h base kd S l m) (hc:∀e∈l,∀t∈aE e.2,mX t=true):iC c' ρ' F h base kd S l m:=iC.sW (H.HS hc) _ _ _ rfl
theorem iC.put {base kd c':Nat} {ρ':Gh} {k:Value} {v v1:TV} {V:Ft} (ha:dm v=dm v1) (hf:∀S2 (x:Value),cU c ρ F h base S2 (aE v) x.cells.toList→∃S3,cU c' ρ' F h base S3 (aE v1) x.cells.toList∧S3.Perm (S2++V)):
 ∀{es:List (Value×TV)} {S:Ft} {ev:List MapEntry},(∀e∈es,∀t∈aE e.2,mX t=true)→iC c ρ F h base kd S (dC es k v) ev→∃S',iC c' ρ' F h base kd S' (dC es k v1) ev∧S'.Perm (S++V):=by
 have one:∀{l:List (Value×TV)} {S:Ft} {ev:List MapEntry},(∀e∈l,∀t∈aE e.2,mX t=true)→iC c ρ F h base kd S ((k,v)::l) ev→∃S',iC c' ρ' F h base kd S' ((k,v1)::l) ev∧S'.Perm (S++V):=by
  intro l S ev bV H;cases H with
  |cons hk jq xm hv hl=>
   obtain⟨S3,h1,h2⟩:=hf _ _ hv;refine⟨_,.cons hk jq (ha.symm.trans xm) h1 (hl.conv bV),?_⟩;refine(h2.append_right _).trans ?_;rw[List.append_assoc,List.append_assoc];exact List.perm_append_comm.append_left _
 intro es
 induction es with
 |nil=>intro S ev _ H;exact one (by simp) H
 |cons e es ih=>
  intro S ev bV H;unfold dC at H ⊢;have ZR:=fun e' xT=>bV e' (List.mem_cons_of_mem _ xT);cases hq:lV k e.1 with
  |true=>rw[hq]at H;exact one ZR H
  |false=>
   rw[hq]at H;cases H with
   |cons hk jq xm hv hl=>
    obtain⟨S',h1,h2⟩:=ih ZR hl;refine⟨_,.cons hk jq xm (hv.conv (bV _ List.mem_cons_self)) h1,?_⟩;rw[List.append_assoc];exact h2.append_left _
theorem xU {k:Value} {v:TV}:∀{es:List (Value×TV)} {e:Value×TV},e∈dC es k v→e=(k,v)∨e∈es
 |[],e,h=>by simp[dC]at h;exact .inl h
 |a::l,e,h=>by
  unfold dC at h;split at h
  ·rcases List.mem_cons.1 h with rfl |h
   ·exact .inl rfl
   ·exact .inr (List.mem_cons_of_mem _ h)
  ·rcases List.mem_cons.1 h with rfl |h
   ·exact .inr List.mem_cons_self
   ·rcases xU h with h|h
    ·exact .inl h
    ·exact .inr (List.mem_cons_of_mem _ h)
def LiR (X:Cx) (ρ:Gh) (F:Nat→Prop) (_:Ob) (c:Nat) (h:ae) (S:Nat→Ft) (U:List Nat):Li→Prop
 | .c t y=>∀S0 v,cU c ρ F h X.base S0 [t] [v]→∃S1,CR F h X.base S1 (.c (.own y) v)∧S1.Perm (S0++U.flatMap S)
 | .k l m=>∀S0 vs,cU c ρ F h X.base S0 l vs→∃S1,CR F h X.base S1 (.cs m vs)∧S1.Perm (S0++U.flatMap S)
 | .b q y=>∀yo n S0 l,q=some yo→OR c ρ F h X.base n S0 yo→ρ n=some l→∃S1,CR F h X.base S1 (.o y l)∧S1.Perm (S0++U.flatMap S)
 | .q op lW=>∀es z cs S0,(∀e∈es,e.length=z)→(∀e∈es,∀t∈e,mX t=true)→(∀p∈op,p.1<es.length∧p.2.length=z)→cU c ρ F h X.base S0 (cP es op).flatten cs→
  ∃S1,cU c ρ F h X.base S1 (cP es lW).flatten cs∧S1.Perm (S0++U.flatMap S)∧(∀e∈cP es lW,e.length=z∧∀t∈e,mX t=true)∧(cP es lW).length=es.length
 | .m op lW=>∀es kd ev S0,(∀e∈es,∀t∈aE e.2,mX t=true)→iC c ρ F h X.base kd S0 (Of es op) ev→∃S1,iC c ρ F h X.base kd S1 (Of es lW) ev∧S1.Perm (S0++U.flatMap S)∧∀e∈Of es lW,∀t∈aE e.2,mX t=true
theorem cU.HT {base:Nat} {S0:Ft} {t:TV} {v:Value} (H:cU c ρ F h base S0 [t] [v]) (hp:eG t=true):S0=[]∧VR c ρ F h t v:=by
 obtain⟨h1,h2⟩:=H.US (fun t v hv hf=>hv.dp hf) (by simpa using hp);exact⟨h2,h1.head⟩
theorem Lm (y:TO) {m:Nat} {l:Loc} {v:Value} (hv:VR c ρ F h (Ev y m) v) (hl:ρ m=some l):VR 1 (fun _=>some l) F h (Ev y 0) v:=by
 cases y with
 |cells cs=>cases hv with|ptr hb=>exact .ptr (hl.symm.trans hb)
 |map kd es=>cases hv with|mp hb=>exact .mp (hl.symm.trans hb)
 |fC kd es op=>cases hv with|mp hb=>exact .mp (hl.symm.trans hb)
 |arr z w es=>cases hv with|tk hn h1 ha h0=>exact .tk om h1 (fun b z len hx=>ha b z len (hl.trans hx)) (fun z hx=>h0 z (hl.trans hx))
 |b6 z es op=>cases hv with|tk hn h1 ha h0=>exact .tk om h1 (fun b z len hx=>ha b z len (hl.trans hx)) (fun z hx=>h0 z (hl.trans hx))
 |eE ks=>cases hv with|bg hb=>exact .bg (hl.symm.trans hb)
theorem OR.loc {base n:Nat} {S:Ft} {y:TO} (H:OR c ρ F h base n S y):∃l,ρ n=some l:=by cases H<;>exact⟨_,by assumption⟩
theorem jt.HU {U:List Nat} {i:Li} (L:jt o U i):∀l m,i= .k l m→l.length=m.length∧∀t∈m,mX t=true:=by
 induction L with
 |ZJ=>rintro l m e;cases e;exact⟨rfl,by simp⟩
 |ZK _ _ _ ih=>
  rintro l m e;cases e;obtain⟨h1,h2⟩:=ih _ _ rfl;refine⟨by simp[h1],fun t ht=>?_⟩;rcases List.mem_cons.1 ht with rfl |ht
  ·rfl
  ·exact h2 t ht
 |kfz _ hf _ ih=>
  rintro l m e;cases e;obtain⟨h1,h2⟩:=ih _ _ rfl;refine⟨by simp[h1],fun t ht=>?_⟩;rcases List.mem_cons.1 ht with rfl |ht
  ·unfold mX;split<;>first|rfl |exact hf
  ·exact h2 t ht
 |_=>rintro l m e;cases e
theorem CR.fzs {base:Nat}:∀{l:List TV} {m:List Value},dF 0 wN F h l m→(∀t∈l,M.fz t=true)→CR F h base [] (.cs l m)
 |[],m,H,_=>by rw[H.bC];exact .nil
 |t::l,m,H,hf=>by
  obtain⟨v,m',rfl,h1,h2⟩:=H.aL;exact .cons (S:=[]) (.fz (hf t List.mem_cons_self) h1) (CR.fzs h2 fun t ht=>hf t (List.mem_cons_of_mem _ ht))
theorem Ln {v:TV} {x:Value} (hf:Eu v=true) (hv:VR c ρ F h v x):dm v=fH x∧(∀t∈aE v,fz t=true)∧dF 0 wN F h (aE v) x.cells.toList:=by
 have h0:=hv.wM (c':=0) (ρ':=wN) hf;have one:(∀cs,v≠ .agg cs)→dm v=fH x∧(∀t∈aE v,fz t=true)∧dF 0 wN F h (aE v) x.cells.toList:=by
  intro AH;have e1:aE v=[v]:=by cases v<;>first|rfl |exact absurd rfl (AH _)
  have e2:fz v=true:=by cases v<;>first|exact hf|exact absurd rfl (AH _)
  have e3:dm v=false:=by cases v<;>first|rfl |exact absurd rfl (AH _)
  have hx:∀a,x≠ .agg a:=by
   rintro a rfl;cases h0 with
   |j=>simp[fz]at e2
   |s hp=>simp[az]at hp
   |tk _ h1=>simp[Lh]at h1
   |sv _ h1=>simp[Lh]at h1
   |pv _ h1=>simp[Lh]at h1
   |wp _ h1=>simp[YH]at h1
   |agg=>exact AH _ rfl
  have e4:fH x=false:=by cases x<;>first|rfl |exact absurd rfl (hx _)
  have e5:x.cells= #[x]:=by cases x<;>first|rfl |exact absurd rfl (hx _)
  rw[e1,e3,e4,e5];exact⟨rfl,by simpa using e2,.cons h0 .nil⟩
 cases v with
 |agg cs=>
  obtain⟨a,rfl,h1⟩:=h0.ff;exact⟨rfl,fun t ht=>List.all_eq_true.1 hf t ht,h1⟩
 |_=>exact one (by intro cs e;cases e)
theorem CR.We {base kd:Nat}:∀{es:List (Value×TV)} {ev:List MapEntry},es.length=ev.length→(∀(i:Nat) e e',es[i]? =some e→ev[i]? =some e'→e'.key=e.1∧(0<kd∧bh e.1=kd)∧Eu e.2=true∧VR c ρ F h e.2 e'.val)→CR F h base [] (.es kd es ev)
 |[],[],_,_=>.Lj
 |[],_::_,h,_=>by simp at h
 |_::_,[],h,_=>by simp at h
 |e::es,e'::ev,hl,hc=>by
  obtain⟨h1,h2,h3,h4⟩:=hc 0 e e' rfl rfl;obtain⟨k1,k2,k3⟩:=Ln h3 h4;exact .AS (S:=[]) h1 h2 k1 (CR.fzs k3 k2) (CR.We (by simpa using hl) fun i x x' q1 q2=>hc (i+1) x x' (by simpa using q1) (by simpa using q2))
theorem hY {z:Nat}:∀{es:List (List TV)} {cs:List Value},cs.length=es.length*z→(∀e∈es,e.length=z)→(∀(i j:Nat) e t v,es[i]? =some e→e[j]? =some t→cs[i*z+j]? =some v→VR c ρ F h t v)→dF c ρ F h es.flatten cs
 |[],cs,hl,_,_=>by
  have:cs=[]:=List.length_eq_zero_iff.1 (by simpa using hl);subst this;exact .nil
 |e::es,cs,hl,he,hc=>by
  have hz:=he e List.mem_cons_self;have e1:cs=cs.take z++cs.drop z:=(List.take_append_drop _ _).symm;rw[List.length_cons,Nat.add_mul]at hl;rw[e1,List.flatten_cons];refine dF.append ⟨by simp;omega,fun j t v q1 q2=>?_⟩ (hY (z:=z) (by simp;omega) (fun e xT=>he e (List.mem_cons_of_mem _ xT)) fun i j e t v q1 q2 q3=>?_)
  ·rw[List.getElem?_take]at q2;split at q2
   ·exact hc 0 j e t v rfl q1 (by rw[←q2];congr 1;omega)
   ·cases q2
  ·rw[List.getElem?_drop]at q3;exact hc (i+1) j e t v (by simpa using q1) q2 (by rw[←q3];congr 1;rw[Nat.add_mul];omega)
theorem Zl.len {x y:List TV} (H:Zl x y):y.length=x.length:=by
 induction H with
 |nil=>rfl
 |same _ ih=>simp[ih]
 |zero _ ih=>simp[ih]
theorem Zl.fz {x y:List TV} (H:Zl x y):(∀t∈x,M.fz t=true)→∀t∈y,M.fz t=true:=by
 induction H with
 |nil=>exact fun h=>h
 |same _ ih=>
  intro h t ht;rcases List.mem_cons.1 ht with rfl |ht
  ·exact h _ List.mem_cons_self
  ·exact ih (fun t ht=>h t (List.mem_cons_of_mem _ ht)) t ht
 |zero _ ih=>
  intro h t ht;rcases List.mem_cons.1 ht with rfl |ht
  ·rfl
  ·exact ih (fun t ht=>h t (List.mem_cons_of_mem _ ht)) t ht
theorem Zl.vr {x y:List TV} (H:Zl x y):∀(j:Nat) t',y[j]? =some t'→∃t,x[j]? =some t∧∀v,VR c ρ F h t v→VR c ρ F h t' v:=by
 induction H with
 |nil=>intro j t' h;simp at h
 |same _ ih=>
  intro j t' h;cases j with
  |zero=>simp at h;subst h;exact⟨_,rfl,fun _ h=>h⟩
  |succ j=>simpa using ih j t' (by simpa using h)
 |zero _ ih=>
  intro j t' h;cases j with
  |zero=>
   simp at h;subst h;refine⟨_,rfl,fun v hv=>?_⟩;cases hv with
   |nil=>exact .nil rfl
   |sl _ _ hz=>exact absurd hz (Nat.lt_irrefl 0)
  |succ j=>simpa using ih j t' (by simpa using h)
theorem jt.rel (H:Mem X ρ F o c h) {S:Nat→Ft} (K:MO X ρ F o c h S) {U:List Nat} {i:Li} (L:jt o U i):LiR X ρ F o c h S U i∧∀u∈U,∃y,look o u=some y:=by
 have named:∀{U:List Nat} {m:Nat} {y:TO},eG (Ev y m)=true→(LiR X ρ F o c h S U (.b (look o m) y)∧∀u∈U,∃y,look o u=some y)→(∃y0,look o m=some y0)→LiR X ρ F o c h S (m::U) (.c (Ev y m) y)∧∀u∈m::U,∃y,look o u=some y:=by
  rintro U m y hp ⟨zW,zX⟩ ⟨y0,hl⟩;refine⟨fun S0 v hv=>?_,fun u hu=>?_⟩
  ·obtain⟨rfl,qJ⟩:=hv.HT hp;have hO:=K.b9 m y0 hl;obtain⟨l,eY⟩:=hO.loc;obtain⟨S1,h1,h2⟩:=zW y0 m _ l hl hO eY;exact⟨S1,.own h1 (Lm y qJ eY),by simpa using h2⟩
  ·rcases List.mem_cons.1 hu with rfl |hu
   ·exact⟨y0,hl⟩
   ·exact zX u hu
 have ux:∀{U:List Nat} {m:Nat} {y:TO},jt o U (.b (look o m) y)→∃y0,look o m=some y0:=by
  intro U m y hL;generalize hq:look o m=q at hL;cases q with
  |none=>cases hL
  |some y0=>exact⟨y0,rfl⟩
 have p0:∀(S0:Ft),S0.Perm (S0++([]:List Nat).flatMap S):=fun S0=>by simp
 induction L with
 |same hy=>obtain rfl:=hy.eq;exact⟨fun S0 v hv=>⟨S0,by
  cases hv with
  |vr hv _=>cases hv
  |cl hv hl=>cases hl;simpa using hv,p0 S0⟩,by simp⟩
 |ptr hL ih=>exact named rfl ih (ux hL)
 |mp hL ih=>exact named (y:=.map _ _) rfl ih (ux hL)
 |mpq hL ih=>exact named (y:=.fC _ _ _) rfl ih (ux hL)
 |tk hL ih=>exact named (y:=.arr _ _ _) rfl ih (ux hL)
 |tkq hL ih=>exact named (y:=.b6 _ _ _) rfl ih (ux hL)
 |bg hl hL ih=>obtain rfl:=hl.eq;exact named (y:=.eE _) rfl ih (ux hL)
 |CM h0=>
  refine⟨fun S0 v hv=>?_,by simp⟩;obtain⟨rfl,qJ⟩:=hv.HT rfl;refine⟨[],.own (.CM (a7.1 h0)) ?_,p0 _⟩;cases qJ with
  |nil=>exact .tk om rfl (fun b z len hx=>by cases hx) (fun z hx=>.inl rfl)
  |sl h1 h2 h3=>omega
 |gF h0=>
  refine⟨fun S0 v hv=>?_,by simp⟩;obtain⟨rfl,qJ⟩:=hv.HT rfl;refine⟨[],.own (.gF (a7.1 h0)) ?_,p0 _⟩;cases qJ with
  |nil=>exact .tk om rfl (fun b z len hx=>by cases hx) (fun z hx=>.inl rfl)
  |sl h1 h2 h3=>omega
 |cells _ ih=>
  refine⟨fun yo n S0 l e hO eY=>?_,ih.2⟩;cases e;cases hO with
  |cells hb hg ht hc=>
   rw[hb]at eY;cases eY;obtain⟨S1,h1,h2⟩:=ih.1 _ _ hc;exact⟨_,.cells hg ht h1,h2.cons _⟩
 |map he=>
  obtain rfl:=he.eq;refine⟨fun yo n S0 l e hO eY=>?_,by simp⟩;cases e;cases hO with
  |map hb hg hl hc bN=>
   rw[hb]at eY;cases eY;exact⟨_,.map hg hl (fun i e e' q1 q2=>let⟨r1,r2,r3,r4⟩:=hc i e e' q1 q2;⟨r1,r2,r3,r4.wM r3⟩) bN,p0 _⟩
 |Sx he=>
  obtain rfl:=he.eq;refine⟨fun yo n S0 l e hO eY=>?_,by simp⟩;cases e;cases hO with
  |map hb hg hl hc bN=>
   rw[hb]at eY;cases eY;exact⟨_,.fC hg (CR.We hl hc) bN,p0 _⟩
 |arr he=>
  obtain rfl:=he.eq;refine⟨fun yo n S0 l e hO eY=>?_,by simp⟩;cases e;cases hO with
  |nil hb hz=>rw[hb]at eY;cases eY;exact⟨_,.CM hz,p0 _⟩
  |arr hb hg hf ht dX hz hl he gV hc hF=>
   rw[hb]at eY;cases eY;exact⟨_,.arr hg hf ht dX hz hl he gV (fun i j e t v q1 q2 q3=>(hc i j e t v q1 q2 q3).dp (gV e (List.mem_of_getElem? q1) t (List.mem_of_getElem? q2))) hF,p0 _⟩
 |acV ha cp Lo=>
  rename_i z w a b l0 x y;have ea:=ha.eq;have eb:=cp.eq;refine⟨fun yo n S0 l e hO eY=>?_,by simp⟩;cases e;cases hO with
  |nil hb hz=>exact absurd ea (by simp)
  |arr hb hg hf ht dX hz hl he gV hc hF=>
   rw[hb]at eY;cases eY;have hlen:a.length=b.length:=by rw[ea,←eb];simp
   have hx:x∈a:=by rw[ea];simp
   have key:∀e'∈b,e'∈a∨e'=y:=fun e' xT=>by
    rw[←eb]at xT;rcases List.mem_append.1 xT with q|q
    ·exact .inl (by rw[ea];exact List.mem_append_left _ q)
    ·exact .inr (by simpa using q)
   have ac7:∀(i j:Nat) e' t',b[i]? =some e'→e'[j]? =some t'→∃e t,a[i]? =some e∧e[j]? =some t∧∀v,VR c ρ F h t v→VR c ρ F h t' v:=fun i j e' t' q1 q2=>by
    rw[←eb]at q1;by_cases hi:i<l0.length
    ·rw[List.getElem?_append_left hi]at q1;exact⟨e',t',by rw[ea,List.getElem?_append_left hi];exact q1,q2,fun _ h=>h⟩
    ·rw[List.getElem?_append_right om]at q1;have UW:i - l0.length=0:=by have:=(List.getElem?_eq_some_iff.1 q1).1;simp at this;omega
     rw[UW]at q1;simp at q1;subst q1;obtain⟨t,q3,q4⟩:=Lo.vr j t' q2;exact⟨x,t,by rw[ea,List.getElem?_append_right om,UW];rfl,q3,q4⟩
   have CZ:∀e∈b,∀t∈e,fz t=true:=fun e' xT=>by
    rcases key e' xT with q|rfl
    ·exact gV e' q
    ·exact Lo.fz (gV x hx)
   rw[hlen]at hl ⊢;exact⟨_,.arr hg hf ht dX hz hl (fun e' xT=>by
    rcases key e' xT with q|rfl
    ·exact he e' q
    ·rw[Lo.len];exact he x hx) CZ (fun i j e' t' v q1 q2 q3=>by
    obtain⟨e,t,r1,r2,r3⟩:=ac7 i j e' t' q1 q2;exact(r3 v (hc i j e t v r1 r2 q3)).dp (CZ e' (List.mem_of_getElem? q1) t' (List.mem_of_getElem? q2))) hF,p0 _⟩
 |Sy he=>
  obtain rfl:=he.eq;refine⟨fun yo n S0 l e hO eY=>?_,by simp⟩;cases e;cases hO with
  |nil hb hz=>rw[hb]at eY;cases eY;exact⟨_,.gF hz,p0 _⟩
  |arr hb hg hf ht dX hz hl he gV hc hF=>
   rw[hb]at eY;cases eY;refine⟨_,.b6 hg hf ht dX hz hl he (CR.fzs (hY hl he fun i j e t v q1 q2 q3=>(hc i j e t v q1 q2 q3).dp (gV e (List.mem_of_getElem? q1) t (List.mem_of_getElem? q2))) fun t ht=>?_),p0 _⟩;obtain⟨e,h1,h2⟩:=List.mem_flatten.1 ht;exact gV e h1 t h2
 |b6 hs he _ ih=>
  refine⟨fun yo n S0 l e hO eY=>?_,ih.2⟩;cases e;obtain rfl:=he.eq;cases hO with
  |gF hb hz=>rw[hb]at eY;cases eY;cases hs;exact⟨_,.gF hz,by
   obtain⟨S1,h1,h2,_⟩:=ih.1 [] 1 [] [] (by simp) (by simp) (by simp) .nil;cases h1;exact h2⟩
  |b6 hb hg hf ht dX hz hl he bV ju hc=>
   rw[hb]at eY;cases eY;obtain⟨S1,h1,h2,h3,h4⟩:=ih.1 _ _ _ _ he bV ju hc;have:=CR.b6 (S:=S1) hg hf ht dX hz (by rw[hl,h4]) (fun e he=>(h3 e he).1) (h1.HS fun t ht=>by
    obtain⟨e,q1,q2⟩:=List.mem_flatten.1 ht;exact(h3 e q1).2 t q2)
   rw[h4]at this;exact⟨_,this,h2.cons _⟩
 |Ah hs he oA _ ih=>
  refine⟨fun yo n S0 l e hO eY=>?_,ih.2⟩;cases e;obtain rfl:=he.eq;cases hO with
  |gF hb hz=>rw[hb]at eY;cases eY;cases hs;exact⟨_,.CM hz,by
   obtain⟨S1,h1,h2,_⟩:=ih.1 [] 1 [] [] (by simp) (by simp) (by simp) .nil;cases h1;exact h2⟩
  |b6 hb hg hf ht dX hz hl he bV ju hc=>
   rw[hb]at eY;cases eY;obtain⟨S1,h1,h2,h3,h4⟩:=ih.1 _ _ _ _ he bV ju hc;have:=CR.b6 (S:=S1) hg hf ht dX hz (by rw[hl,h4]) (fun e he=>(h3 e he).1) (h1.HS fun t ht=>by
    obtain⟨e,q1,q2⟩:=List.mem_flatten.1 ht;exact(h3 e q1).2 t q2)
   rw[h4]at this;exact⟨_,this.Ah oA,h2.cons _⟩
 |fC hs he _ ih=>
  refine⟨fun yo n S0 l e hO eY=>?_,ih.2⟩;cases e;obtain rfl:=he.eq;cases hO with
  |fC hb hg bV hc bN=>
   rw[hb]at eY;cases eY;obtain⟨S1,h1,h2,h3⟩:=ih.1 _ _ _ _ bV hc;exact⟨_,.fC hg (h1.HS h3) bN,h2.cons _⟩
 |eE he=>
  obtain rfl:=he.eq;refine⟨fun yo n S0 l e hO eY=>?_,by simp⟩;cases e;cases hO with
  |eE hb hg=>rw[hb]at eY;cases eY;exact⟨_,.eE hg,p0 _⟩
 |ZJ=>exact⟨fun S0 vs hv=>by cases hv;exact⟨[],.nil,by simp⟩,by simp⟩
 |ZK _ _ zW zX=>
  rename_i U1 U2 a y l m _ _;refine⟨fun S0 vs hv=>?_,fun u hu=>(List.mem_append.1 hu).elim (zW.2 u) (zX.2 u)⟩;have split:∃A B v nF,S0=A++B∧vs=v::nF∧cU c ρ F h X.base A [a] [v]∧cU c ρ F h X.base B l nF:=by
   cases hv with
   |vr h1 h2=>exact⟨[],_,_,_,rfl,rfl,.vr h1 .nil,h2⟩
   |cl h1 h2=>exact⟨_,_,_,_,rfl,rfl,by simpa using cU.cl h1 .nil,h2⟩
  obtain⟨A,B,v,nF,rfl,rfl,h1,h2⟩:=split;obtain⟨A1,k1,k2⟩:=zW.1 A v h1;obtain⟨B1,k3,k4⟩:=zX.1 B nF h2;refine⟨A1++B1,.cons k1 k3,(k2.append k4).trans ?_⟩;rw[List.flatMap_append];simp only[List.append_assoc];refine List.Perm.append_left _ ?_;rw[←List.append_assoc,←List.append_assoc];exact List.perm_append_comm.append_right _
 |kfz hv hf _ ih=>
  rename_i U1 a b l m _;refine⟨fun S0 vs Ng=>?_,ih.2⟩;have hpa:eG a=true:=by cases hv<;>first|rfl |simp[M.fz]at hf
  have split:∃v nF,vs=v::nF∧VR c ρ F h a v∧cU c ρ F h X.base S0 l nF:=by
   cases Ng with
   |vr h1 h2=>exact⟨_,_,rfl,h1,h2⟩
   |cl h1 h2=>
    cases h1 with
    |fz hf1 qJ=>exact⟨_,_,rfl,qJ.dp hf1,h2⟩
    |own=>simp[eG]at hpa
  obtain⟨v,nF,rfl,h1,h2⟩:=split;obtain⟨S1,k1,k2⟩:=ih.1 S0 nF h2;exact⟨S1,.cons (S:=[]) (.fz hf ((qe (zf:=fun _=>0) H _ _ _ hv h1).dp hf)) k1,k2⟩
 |q0=>exact⟨fun es z cs S0 hz bV _ hc=>⟨S0,hc,p0 S0,fun e he=>⟨hz e he,bV e he⟩,rfl⟩,by simp⟩
 |q1 hL ih=>
  rename_i U1 i a b;refine⟨fun es z cs S0 hz bV ju hc=>?_,ih.2⟩;obtain⟨k1,k2⟩:=ju (i,a) (by simp);simp only at k1 k2;obtain⟨f1,f2⟩:=hL.HU _ _ rfl;have jr:∀e∈es.set i a,e.length=z:=fun e he=>by
   rcases List.mem_or_eq_of_mem_set he with h1|rfl
   ·exact hz e h1
   ·exact k2
  obtain⟨r1,r2⟩:=e7 jr (i:=i) (e:=a) (by simp[k1]);obtain⟨S1,q1,q2⟩:=cU.ZQ (l2:=b) (V:=U1.flatMap S) hc (i*z) z fun S2 h2=>by
   have e:((cP es [(i,a)]).flatten.drop (i*z)).take z=a:=r1;rw[e]at h2;obtain⟨S3,h3,h4⟩:=ih.1 S2 _ h2;exact⟨S3,cU.sW h3 _ _ rfl,h4⟩
  have e2:(cP es [(i,b)]).flatten=(cP es [(i,a)]).flatten.take (i*z)++(b++((cP es [(i,a)]).flatten.drop (i*z)).drop z):=by
   have:=jO (e:=b) jr (i:=i) (by simpa using k1);rw[List.set_set]at this;exact this
  rw[←e2]at q1;refine⟨S1,q1,q2,fun e he=>?_,by simp[cP]⟩;rcases List.mem_or_eq_of_mem_set he with h1|rfl
  ·exact⟨hz e h1,bV e h1⟩
  ·exact⟨om,f2⟩
 |q2 hik hL hR ih ihr=>
  rename_i U1 U2 i k a b a' b';refine⟨fun es z cs S0 hz bV ju hc=>?_,fun u hu=>(List.mem_append.1 hu).elim (ih.2 u) (ihr.2 u)⟩;obtain⟨k1,k2⟩:=ju (i,a) (by simp);obtain⟨l1,l2⟩:=ju (k,a') (by simp);simp only at k1 k2 l1 l2;obtain⟨f1,f2⟩:=hL.HU _ _ rfl;have hc:cU c ρ F h X.base S0 ((es.set k a').set i a).flatten cs:=hc;have jr:∀e∈(es.set k a').set i a,e.length=z:=fun e he=>by
   rcases List.mem_or_eq_of_mem_set he with h1|rfl
   ·rcases List.mem_or_eq_of_mem_set h1 with h1|rfl
    ·exact hz e h1
    ·exact l2
   ·exact k2
  obtain⟨r1,r2⟩:=e7 jr (i:=i) (e:=a) (by simp[k1]);obtain⟨S1,q1,q2⟩:=cU.ZQ (l2:=b) (V:=U1.flatMap S) hc (i*z) z fun S2 h2=>by
   have e:(((es.set k a').set i a).flatten.drop (i*z)).take z=a:=r1;rw[e]at h2;obtain⟨S3,h3,h4⟩:=ih.1 S2 _ h2;exact⟨S3,cU.sW h3 _ _ rfl,h4⟩
  have e2:((es.set k a').set i b).flatten=((es.set k a').set i a).flatten.take (i*z)++(b++(((es.set k a').set i a).flatten.drop (i*z)).drop z):=by
   have:=jO (e:=b) jr (i:=i) (by simpa using k1);rw[List.set_set]at this;exact this
  rw[←e2,List.set_comm _ _ (fun e=>hik e.symm)]at q1;obtain⟨S2,w1,w2,w3,w4⟩:=ihr.1 (es.set i b) z cs S1 (fun e he=>by
   rcases List.mem_or_eq_of_mem_set he with h1|rfl
   ·exact hz e h1
   ·omega) (fun e he=>by
   rcases List.mem_or_eq_of_mem_set he with h1|rfl
   ·exact bV e h1
   ·exact f2) (fun p hp=>by simp only[List.mem_singleton]at hp;subst hp;exact⟨by simpa using l1,l2⟩) q1
  have e4:cP (es.set i b) [(k,b')]=cP es [(i,b),(k,b')]:=List.set_comm _ _ hik;rw[e4]at w1 w3 w4;refine⟨S2,w1,?_,w3,by rw[w4];simp⟩;rw[List.flatMap_append,←List.append_assoc];exact w2.trans (q2.append_right _)
 |m0=>exact⟨fun es kd ev S0 bV hc=>⟨S0,hc,p0 S0,bV⟩,by simp⟩
 |m1 ha hL ih=>
  rename_i U1 k a b;refine⟨fun es kd ev S0 bV hc=>?_,ih.2⟩;obtain⟨f1,f2⟩:=hL.HU _ _ rfl;obtain⟨S1,q1,q2⟩:=iC.put (c':=c) (ρ':=ρ) (V:=U1.flatMap S) ha (fun S2 x h2=>by
   obtain⟨S3,h3,h4⟩:=ih.1 S2 _ h2;exact⟨S3,cU.sW h3 _ _ rfl,h4⟩) bV hc
  refine⟨S1,q1,q2,fun e he=>?_⟩;rcases xU he with rfl |h1
  ·exact f2
  ·exact bV e h1
theorem wL.rel (H:Mem X ρ F o c h) {S:Nat→Ft} (K:MO X ρ F o c h S) {U:List Nat} {a b:List TV} (L:wL ids o U a b):∀{S0:Ft} {vs:List Value},cU c ρ F h X.base S0 a vs→(∃S1,cU ids.length (fy ids zf ρ) F h X.base S1 b vs∧S1.Perm (S0++U.flatMap S))∧∀u∈U,∃y,look o u=some y:=by
 induction L with
 |nil=>intro S0 vs hv;cases hv;exact⟨⟨[],.nil,by simp⟩,by simp⟩
 |own hL _ ih=>
  rename_i U1 U2 a y l m _;intro S0 vs hv;have split:∃A B v nF,S0=A++B∧vs=v::nF∧cU c ρ F h X.base A [a] [v]∧cU c ρ F h X.base B l nF:=by
   cases hv with
   |vr h1 h2=>exact⟨[],_,_,_,rfl,rfl,.vr h1 .nil,h2⟩
   |cl h1 h2=>exact⟨_,_,_,_,rfl,rfl,by simpa using cU.cl h1 .nil,h2⟩
  obtain⟨A,B,v,nF,rfl,rfl,h1,h2⟩:=split;obtain⟨g1,g2⟩:=hL.rel H K;obtain⟨A1,k1,k2⟩:=g1 A v h1;obtain⟨⟨B1,k3,k4⟩,g3⟩:=ih h2;refine⟨⟨A1++B1,.cl k1 k3,(k2.append k4).trans ?_⟩,fun u hu=>(List.mem_append.1 hu).elim (g2 u) (g3 u)⟩;rw[List.flatMap_append];simp only[List.append_assoc];refine List.Perm.append_left _ ?_;rw[←List.append_assoc,←List.append_assoc];exact List.perm_append_comm.append_right _
 |v hV hp _ ih=>
  rename_i U1 a b l m _;intro S0 vs hv;cases hv with
  |vr h1 h2=>
   obtain⟨⟨S1,k1,k2⟩,k3⟩:=ih h2;exact⟨⟨S1,.vr (qe H _ _ _ hV h1) k1,k2⟩,k3⟩
  |cl h1 h2=>
   cases h1 with
   |fz hf1 qJ=>
    obtain⟨⟨S1,k1,k2⟩,k3⟩:=ih h2;exact⟨⟨S1,.vr (qe H _ _ _ hV (qJ.dp hf1)) k1,k2⟩,k3⟩
   |own=>simp[eG]at hp
theorem wL.len {U:List Nat} {a b:List TV} (L:wL ids o U a b):a.length=b.length:=by
 induction L with
 |nil=>rfl
 |own _ _ ih=>simp[ih]
 |v _ _ _ ih=>simp[ih]
theorem kT:∀{ids:List (Option Nat)} {k m:Nat},iA c ids=true→ids[k]? =some (some m)→m<c
 |[],k,m,_,h=>by simp at h
 |none::l,k,m,hi,h=>by
  cases k with
  |zero=>simp at h
  |succ k=>exact kT (ids:=l) hi (by simpa using h)
 |some m'::l,k,m,hi,h=>by
  simp only[iA,Bool.and_eq_true,a7]at hi;cases k with
  |zero=>simp at h;subst h;exact hi.1.1
  |succ k=>exact kT (ids:=l) hi.2 (by simpa using h)
theorem mZ:∀{ids:List (Option Nat)} {k k' m:Nat},iA c ids=true→ids[k]? =some (some m)→ids[k']? =some (some m)→k=k'
 |[],k,k',m,_,h,_=>by simp at h
 |none::l,k,k',m,hi,h,h'=>by
  cases k with
  |zero=>simp at h
  |succ k=>cases k' with
   |zero=>simp at h'
   |succ k'=>exact congrArg (· +1) (mZ (ids:=l) hi (by simpa using h) (by simpa using h'))
 |some m'::l,k,k',m,hi,h,h'=>by
  simp only[iA,Bool.and_eq_true,a7,Bool.not_eq_true',List.contains_eq_mem]at hi;have hn:some m'∉l:=by simpa using hi.1.2
  cases k with
  |zero=>cases k' with
   |zero=>rfl
   |succ k'=>
    simp at h h';subst h;exact absurd (List.mem_of_getElem? h') hn
  |succ k=>cases k' with
   |zero=>
    simp at h h';subst h';exact absurd (List.mem_of_getElem? h) hn
   |succ k'=>exact congrArg (· +1) (mZ (ids:=l) hi.2 (by simpa using h) (by simpa using h'))
theorem AX:∀{n k:Nat} {ids:List (Option Nat)},pd n k ids=true→∀i,i<n→ids[i]? =some (some (k+i))
 |0,k,ids,_,i,hi=>by omega
 |n+1,k,[],h,i,hi=>by simp[pd]at h
 |n+1,k,none::l,h,i,hi=>by simp[pd]at h
 |n+1,k,some m::l,h,i,hi=>by
  simp only[pd,Bool.and_eq_true,beq_iff]at h;obtain⟨rfl,h2⟩:=h;cases i with
  |zero=>simp
  |succ i=>
   have:=AX h2 i om;simp only[List.getElem?_cons_succ,this]
   congr 2;omega
def Lp:TO→Nat
 | .arr z _ _=>z
 | .b6 z _ _=>z
 |_=>0
def HV (o1:Ob) (n:Nat):Nat:=match look o1 n with|some y=>Lp y|none=>0
theorem kU {base z i:Nat} {S:Ft} {es:List (List TV)} {x:List TV} {cs:List Value} (hz:∀e∈es,e.length=z) (hi:i<es.length) (H:cU c ρ F h base S (es.set i x).flatten cs):
 ∃S1 S2 S3 v1 v2 v3,S=S1++(S2++S3)∧cs=v1++(v2++v3)∧cU c ρ F h base S1 (es.flatten.take (i*z)) v1∧cU c ρ F h base S2 x v2∧cU c ρ F h base S3 ((es.flatten.drop (i*z)).drop z) v3:=by
 rw[jO hz hi]at H;have h1:(es.flatten.take (i*z)).length=i*z:=by
  obtain⟨e,he⟩:∃e,es[i]? =some e:=⟨_,List.getElem?_eq_getElem hi⟩;have:=(e7 hz he).2;rw[Nat.add_mul]at this;rw[List.length_take];omega
 obtain⟨S1,R,rfl,k1,k2⟩:=H.split (i*z);rw[List.take_append_of_le_length om,List.take_of_length_le om]at k1;rw[List.drop_append,List.drop_eq_nil_of_le om,h1,Nat.sub_self,List.drop_zero,List.nil_append]at k2;obtain⟨S2,S3,rfl,k3,k4⟩:=k2.split x.length;rw[List.take_append_of_le_length (Nat.le_refl _),List.take_of_length_le (Nat.le_refl _)]at k3;rw[List.drop_append,List.drop_eq_nil_of_le (Nat.le_refl _),Nat.sub_self,List.drop_zero,List.nil_append]at k4;exact⟨S1,S2,S3,_,_,_,rfl,by rw[List.take_append_drop,List.take_append_drop],k1,k3,k4⟩
theorem qf {base z i:Nat} {S1 S2 S3:Ft} {es:List (List TV)} {y:List TV} {v1 v2 v3:List Value} (hz:∀e∈es,e.length=z) (hi:i<es.length)
 (h1:cU c ρ F h base S1 (es.flatten.take (i*z)) v1) (h2:cU c ρ F h base S2 y v2) (h3:cU c ρ F h base S3 ((es.flatten.drop (i*z)).drop z) v3):cU c ρ F h base (S1++(S2++S3)) (es.set i y).flatten (v1++(v2++v3)):=by
 rw[jO hz hi];exact h1.join (h2.join h3)
theorem xV {es:List (List TV)} (bV:∀e∈es,∀t∈e,mX t=true):∀t∈es.flatten,mX t=true:=fun t ht=>by
 obtain⟨e,h1,h2⟩:=List.mem_flatten.1 ht;exact bV e h1 t h2
theorem oP.SD {t:TV} (h:fz t=true):oP ids o (.v t) (.v t):=by
 cases t with
 |s v=>exact .s Lz.rfl
 |sl z es fl=>exact .sl (by simp) (by simp) Lz.rfl
 |nz t v=>
  cases v with
  |s v=>exact .nz (.s Lz.rfl)
  |_=>simp[fz]at h
 |cW g a c=>
  cases a with
  |nil=>
   cases c with
   |nil=>exact .cW .nil .nil
   |cons=>simp[fz]at h
  |cons=>simp[fz]at h
 |_=>simp[fz]at h
theorem wL.JO:∀{l:List TV},(∀t∈l,mX t=true)→wL ids o [] l l
 |[],_=>.nil
 |t::l,h=>by
  have ht:=h t List.mem_cons_self;have ih:=wL.JO fun x hx=>h x (List.mem_cons_of_mem _ hx);by_cases hq:eG t=true
  ·refine .v (oP.SD ?_) hq ih;cases t<;>first|exact ht|(simp[eG]at hq)
  ·cases t with
   |own y=>exact .own (.same Lz.rfl) ih
   |_=>simp[eG]at hq
theorem wL.append {U:List Nat} {a b:List TV} (L:wL ids o U a b) {a' b':List TV} (L':wL ids o [] a' b'):wL ids o U (a++a') (b++b'):=by
 induction L with
 |nil=>exact L'
 |own h _ ih=>exact .own h ih
 |v h hp _ ih=>exact .v h hp ih
inductive oB (ids:List (Option Nat)) (o:Ob):List (List TV)→List (List TV)→Prop
 |nil:oB ids o [] []
 |cons {x y:List TV} {l m:List (List TV)} (h:wL ids o [] x y) (k:oB ids o l m):oB ids o (x::l) (y::m)
theorem oB.refl:∀{es:List (List TV)},(∀e∈es,∀t∈e,mX t=true)→oB ids o es es
 |[],_=>.nil
 |e::_,h=>.cons (wL.JO (h e List.mem_cons_self)) (oB.refl fun x hx=>h x (List.mem_cons_of_mem _ hx))
theorem oB.set {l m:List (List TV)} (R:oB ids o l m) {x y:List TV} (h:wL ids o [] x y):∀i:Nat,oB ids o (l.set i x) (m.set i y):=by
 induction R with
 |nil=>intro i;exact .nil
 |cons h1 k ih=>
  intro i;cases i with
  |zero=>exact .cons h k
  |succ i=>exact .cons h1 (ih i)
theorem oB.flatten {l m:List (List TV)} (R:oB ids o l m):wL ids o [] l.flatten m.flatten:=by
 induction R with
 |nil=>exact .nil
 |cons h _ ih=>rw[List.flatten_cons,List.flatten_cons];exact h.append ih
theorem AP.rows {op Lf:List (Nat×List TV)} (L:AP ids o op Lf) {es:List (List TV)} (bV:∀e∈es,∀t∈e,mX t=true):oB ids o (cP es op) (cP es Lf)∧∀p∈Lf,∃x,(p.1,x)∈op∧x.length=p.2.length:=by
 induction L with
 |nil=>exact⟨.refl bV,by simp⟩
 |cons h _ ih=>
  refine⟨ih.1.set h _,fun p hp=>?_⟩;rcases List.mem_cons.1 hp with rfl |hp
  ·exact⟨_,List.mem_cons_self,h.len⟩
  ·obtain⟨x,q1,q2⟩:=ih.2 p hp;exact⟨x,List.mem_cons_of_mem _ q1,q2⟩
theorem DY.rel (H:Mem X ρ F o c h) {S:Nat→Ft} (K:MO X ρ F o c h S) {U:List Nat} {q:Option (Option TO)} {y:TO} (L:DY ids o U q y) {n:Nat} (hq:q=CN ids o n) (Rw:zf n=Lp y):
 ∃S1,OR ids.length (fy ids zf ρ) F h X.base n S1 y∧((∃m,ids[n]? =some (some m)∧(∃y,look o m=some y)∧S1.Perm ((m::U).flatMap S))∨(S1=[]∧U=[]))∧∀u∈U,∃y,look o u=some y:=by
 have src:∀y0,some (some y0)=CN ids o n→∃m,ids[n]? =some (some m)∧look o m=some y0:=by
  intro y0 hs;unfold CN at hs;split at hs
  ·rename_i m hm;split at hs
   ·rename_i y1 hy;cases hs;exact⟨m,hm,hy⟩
   ·cases hs
  ·cases hs
  ·cases hs
 have isn:some none=CN ids o n→ids[n]? =some none:=by
  intro hs;unfold CN at hs;split at hs
  ·split at hs<;>cases hs
  ·assumption
  ·cases hs
 have fin:∀{U:List Nat} {y y0:TO},some (some y0)=CN ids o n→(∀m S0,ids[n]? =some (some m)→look o m=some y0→fy ids zf ρ n=ρ m→OR c ρ F h X.base m S0 y0→∃S1,OR ids.length (fy ids zf ρ) F h X.base n S1 y∧S1.Perm (S0++U.flatMap S))→(∀u∈U,∃y,look o u=some y)→
  ∃S1,OR ids.length (fy ids zf ρ) F h X.base n S1 y∧((∃m,ids[n]? =some (some m)∧(∃y,look o m=some y)∧S1.Perm ((m::U).flatMap S))∨(S1=[]∧U=[]))∧∀u∈U,∃y,look o u=some y:=by
  intro U y y0 hs hf hU;obtain⟨m,h1,h2⟩:=src y0 hs;obtain⟨S1,k1,k2⟩:=hf m _ h1 h2 (by simp[fy,h1]) (K.b9 m y0 h2);exact⟨S1,k1,.inl ⟨m,h1,⟨y0,h2⟩,by simpa using k2⟩,hU⟩
 have p0:∀(S0:Ft),S0.Perm (S0++([]:List Nat).flatMap S):=fun S0=>by simp
 have closed:∀{U:List Nat} {y y0:TO},some (some y0)=CN ids o n→jt o U (.b (some y0) y)→∃S1,OR ids.length (fy ids zf ρ) F h X.base n S1 y∧((∃m,ids[n]? =some (some m)∧(∃y,look o m=some y)∧S1.Perm ((m::U).flatMap S))∨(S1=[]∧U=[]))∧∀u∈U,∃y,look o u=some y:=by
  intro U y y0 hs hL;obtain⟨g1,g2⟩:=hL.rel H K;refine fin hs (fun m S0 h1 h2 fw hO=>?_) g2;obtain⟨l,hl⟩:=hO.loc;obtain⟨S1,k1,k2⟩:=g1 y0 m S0 l rfl hO hl;exact⟨S1,OR.sW k1 (fw.trans hl),k2⟩
 cases L with
 |cells hN=>
  obtain⟨m,h1,h2⟩:=src _ hq;have hO:=K.b9 m _ h2;refine fin hq (fun m' S0 _ _ fw Wg=>?_) ?_
  ·cases Wg with
   |cells hb hg ht hc=>
    obtain⟨⟨S1,k1,k2⟩,_⟩:=hN.rel (zf:=zf) H K hc;exact⟨_,.cells (fw.trans hb) hg ht k1,k2.cons _⟩
  ·generalize S m=S0 at hO;cases hO with
   |cells hb hg ht hc=>exact(hN.rel (zf:=zf) H K hc).2
 |map he=>exact closed hq (.map he)
 |Sx he=>exact closed hq (.Sx he)
 |arr he=>exact closed hq (.arr he)
 |Sy he=>exact closed hq (.Sy he)
 |b6 hs he hL=>exact closed hq (.b6 hs he hL)
 |Ah hs he oA hL=>exact closed hq (.Ah hs he oA hL)
 |fC hs he hL=>exact closed hq (.fC hs he hL)
 |eE he=>exact closed hq (.eE he)
 |acX he hi hN=>
  rename_i z a b i j x w;obtain rfl:=he.eq;obtain rfl:=hi.eq;obtain⟨m,h1,h2⟩:=src _ hq;have hO:=K.b9 m _ h2;refine fin hq (fun m' S0 _ _ fw Wg=>?_) ?_
  ·cases Wg with
   |b6 hb hg hf ht dX hz hl he bV ju hc=>
    obtain⟨o1,o2⟩:=ju (i,x) (by simp);obtain⟨S1,S2,S3,v1,v2,v3,rfl,rfl,a1,a2,a3⟩:=kU he o1 hc;obtain⟨⟨S4,k1,k2⟩,_⟩:=hN.rel (zf:=zf) H K a2;have fc:=xV bV;have:=qf he o1 (a1.conv (c':=ids.length) (ρ':=fy ids zf ρ) fun t ht=>fc t (List.mem_of_mem_take ht)) k1 (a3.conv fun t ht=>fc t (List.mem_of_mem_drop (List.mem_of_mem_drop ht)));refine⟨_,.b6 (fw.trans hb) hg hf ht dX hz hl he bV (fun p hp=>?_) this,?_⟩
    ·simp only[List.mem_singleton]at hp;subst hp;exact⟨o1,by rw[←hN.len];exact o2⟩
    ·refine List.Perm.cons _ ((List.Perm.append_left S1 (k2.append_right S3)).trans ?_);show List.Perm _ ((S1++(S2++S3))++U.flatMap S);simp only[List.append_assoc];exact(List.perm_append_comm.append_left _).append_left _
  ·generalize S m=S0 at hO;cases hO with
   |b6 hb hg hf ht dX hz hl he bV ju hc=>
    obtain⟨o1,o2⟩:=ju (i,x) (by simp);obtain⟨S1,S2,S3,v1,v2,v3,rfl,rfl,a1,a2,a3⟩:=kU he o1 hc;exact(hN.rel (zf:=zf) H K a2).2
 |acY he hk ha hN=>
  rename_i kd a b k k' x w;obtain rfl:=he.eq;obtain rfl:=hk.eq;obtain⟨m,h1,h2⟩:=src _ hq;have hO:=K.b9 m _ h2;have hU:∀u∈U,∃y,look o u=some y:=by
   generalize S m=S0 at hO;cases hO with
   |fC hb hg bV hc bN=>
    have key:∀{es:List (Value×TV)} {S0:Ft} {ev:List MapEntry},iC c ρ F h X.base kd S0 (dC es k x) ev→∃S2 vs,cU c ρ F h X.base S2 (aE x) vs:=by
     intro es
     induction es with
     |nil=>intro S0 ev hE;cases hE with|cons _ _ _ hv _=>exact⟨_,_,hv⟩
     |cons e es ih=>
      intro S0 ev hE;unfold dC at hE;split at hE
      ·cases hE with|cons _ _ _ hv _=>exact⟨_,_,hv⟩
      ·cases hE with|cons _ _ _ _ hl=>exact ih hl
    obtain⟨S2,vs,hv⟩:=key hc;exact(hN.rel (zf:=zf) H K hv).2
  refine fin hq (fun m' S0 _ _ fw Wg=>?_) hU;cases Wg with
  |fC hb hg bV hc bN=>
   obtain⟨S1,q1,q2⟩:=iC.put (c':=ids.length) (ρ':=fy ids zf ρ) (V:=U.flatMap S) ha (fun S2 x h2=>(hN.rel (zf:=zf) H K h2).1) bV hc;exact⟨_,.fC (fw.trans hb) hg bV q1 bN,q2.cons _⟩
 |CO he hN=>
  rename_i z a b op Lf;obtain rfl:=he.eq;refine fin hq (fun m' S0 _ _ fw Wg=>?_) (by simp);cases Wg with
  |b6 hb hg hf ht dX hz hl he bV ju hc=>
   obtain⟨r1,r2⟩:=hN.rows bV;obtain⟨⟨S1,k1,k2⟩,_⟩:=r1.flatten.rel (zf:=zf) H K hc;refine⟨_,.b6 (fw.trans hb) hg hf ht dX hz hl he bV (fun p hp=>?_) k1,k2.cons _⟩;obtain⟨x,q1,q2⟩:=r2 p hp;obtain⟨w1,w2⟩:=ju _ q1;exact⟨w1,by rw[←q2];exact w2⟩
  |gF hb hz=>
   cases hN;exact⟨[],.gF (fw.trans hb) hz,by simp⟩
 |new hz=>
  have hi:=isn hq;exact⟨[],.nil (by simp[fy,hi,Rw,Lp]) (a7.1 hz),.inr ⟨rfl,rfl⟩,by simp⟩
 |acZ hz=>
  have hi:=isn hq;exact⟨[],.gF (by simp[fy,hi,Rw,Lp]) (a7.1 hz),.inr ⟨rfl,rfl⟩,by simp⟩
theorem AY:∀{l:List Nat},CP l=true→l.Nodup
 |[],_=>List.nodup_nil
 |n::l,h=>by
  simp only[CP,Bool.and_eq_true,Bool.not_eq_true',List.contains_eq_mem,decide_eq_false_iff_not]at h;exact List.nodup_cons.2 ⟨h.1,AY h.2⟩
theorem Lq {U:List Nat} (h:mC ids U=true):U.Nodup∧∀u∈U,∀k:Nat,ids[k]? ≠some (some u):=by
 simp only[mC,Bool.and_eq_true,List.all_eq_true,Bool.not_eq_true',List.contains_eq_mem,decide_eq_false_iff_not]at h;exact⟨AY h.1,fun u hu k hk=>h.2 u hu (List.mem_of_getElem? hk)⟩
theorem JH.Wh (_:Mem X ρ F o c h) {S:Nat→Ft} (_:MO X ρ F o c h S) {U:List Nat} {o1:Ob} (L:JH ids o U o1):U.Nodup→∃Un:Nat→List Nat,(∀n,∀u∈Un n,u∈U)∧(∀n,(Un n).Nodup)∧(∀n1 n2 u,u∈Un n1→u∈Un n2→n1=n2)∧∀n y,look o1 n=some y→DY ids o (Un n) (CN ids o n) y:=by
 induction L with
 |nil=>intro _;exact⟨fun _=>[],by simp,by simp,by simp,fun n y hl=>by cases hl⟩
 |cons hT _ ih=>
  rename_i U1 U2 m y l _;intro tW;obtain⟨n1,n2,n3⟩:=List.nodup_append.1 tW;obtain⟨Un,k1,k2,k3,k4⟩:=ih n2;refine⟨fun n=>if n=m then U1 else Un n,fun n u hu=>?_,fun n=>?_,fun a b u ha hb=>?_,fun n y' hl=>?_⟩
  ·by_cases e:n=m
   ·simp only[e,if_true]at hu;exact List.mem_append_left _ hu
   ·simp only[e,if_false]at hu;exact List.mem_append_right _ (k1 n u hu)
  ·by_cases e:n=m
   ·simp only[e,if_true];exact n1
   ·simp only[e,if_false];exact k2 n
  ·by_cases ea:a=m<;>by_cases eb:b=m
   ·rw[ea,eb]
   ·simp only[ea,if_true]at ha;simp only[eb,if_false]at hb;exact absurd rfl (n3 u ha u (k1 b u hb))
   ·simp only[ea,if_false]at ha;simp only[eb,if_true]at hb;exact absurd rfl (n3 u hb u (k1 a u ha))
   ·simp only[ea,if_false]at ha;simp only[eb,if_false]at hb;exact k3 a b u ha hb
  ·rw[aQ]at hl;by_cases e:m=n
   ·rw[if_pos e]at hl;cases hl;subst e;simpa using hT
   ·rw[if_neg e]at hl;have:¬n=m:=fun e'=>e e'.symm;simp only[this,if_false];exact k4 n y' hl
structure Told (X:Cx) (ρ:Gh) (F:Nat→Prop) (o:Ob) (h:ae) (S:Nat→Ft) (ids:List (Option Nat)) (U:List Nat) (o1:Ob) (S1:Nat→Ft) (Ns:Nat→List Nat):Prop where
 b9:∀n y,look o1 n=some y→OR ids.length (fy ids (HV o1) ρ) F h X.base n (S1 n) y
 perm:∀n y,look o1 n=some y→(S1 n).Perm ((Ns n).flatMap S)
 DZ:∀n y,look o1 n=some y→(Ns n).Nodup
 gh:∀n y u,look o1 n=some y→u∈Ns n→∃y,look o u=some y
 ZS:∀n y u,look o1 n=some y→u∈Ns n→ids[n]? =some (some u)∨u∈U
 one:∀n1 n2 y1 y2 u,look o1 n1=some y1→look o1 n2=some y2→u∈Ns n1→u∈Ns n2→n1=n2
open Classical in
open Classical in
theorem JH.told (H:Mem X ρ F o c h) {S:Nat→Ft} (K:MO X ρ F o c h S) {U:List Nat} {o1:Ob} (L:JH ids o U o1) (hi:iA c ids=true) (hU:mC ids U=true):∃S1 Ns,Told X ρ F o h S ids U o1 S1 Ns:=by
 obtain⟨u1,u2⟩:=Lq hU;obtain⟨Un,k1,k2,k3,k4⟩:=L.Wh H K u1;have each:∀n,∃(S1:Ft) (N:List Nat),∀y,look o1 n=some y→OR ids.length (fy ids (HV o1) ρ) F h X.base n S1 y∧S1.Perm (N.flatMap S)∧N.Nodup∧(∀u∈N,∃y,look o u=some y)∧∀u∈N,ids[n]? =some (some u)∨u∈Un n:=by
  intro n;cases hl:look o1 n with
  |none=>exact⟨[],[],fun y hy=>by cases hy⟩
  |some y=>
   obtain⟨S1,h1,h2,h3⟩:=(k4 n y hl).rel (zf:=HV o1) H K rfl (by simp[HV,hl]);rcases h2 with⟨m,q1,q2,q3⟩|⟨rfl,q2⟩
   ·refine⟨S1,m::Un n,fun y' ZT=>?_⟩;cases ZT;refine⟨h1,q3,List.nodup_cons.2 ⟨fun hm=>u2 m (k1 n m hm) n q1,k2 n⟩,fun u hu=>?_,fun u hu=>?_⟩
    ·rcases List.mem_cons.1 hu with rfl |hu
     ·exact q2
     ·exact h3 u hu
    ·rcases List.mem_cons.1 hu with rfl |hu
     ·exact .inl q1
     ·exact .inr hu
   ·exact⟨[],[],fun y' ZT=>by cases ZT;exact⟨h1,by simp,by simp,by simp,by simp⟩⟩
 refine⟨fun n=>Classical.choose (each n),fun n=>Classical.choose (Classical.choose_spec (each n)),?_⟩;have sp:=fun n y (hl:look o1 n=some y)=>Classical.choose_spec (Classical.choose_spec (each n)) y hl;refine⟨fun n y hl=>(sp n y hl).1,fun n y hl=>(sp n y hl).2.1,fun n y hl=>(sp n y hl).2.2.1,fun n y u hl hu=>(sp n y hl).2.2.2.1 u hu,fun n y u hl hu=>((sp n y hl).2.2.2.2 u hu).imp id (k1 n u),fun a b y1 y2 u HW hlb ha hb=>?_⟩;rcases(sp a y1 HW).2.2.2.2 u ha with p|p<;>rcases(sp b y2 hlb).2.2.2.2 u hb with q|q
 ·exact mZ hi p q
 ·exact absurd p (u2 u (k1 b u q) a)
 ·exact absurd q (u2 u (k1 a u p) b)
 ·exact k3 a b u p q
theorem EK {S:Nat→Ft} {N:List Nat} {x:Nat}:x∈dI (N.flatMap S)↔∃u∈N,x∈dI (S u):=by
 unfold dI;simp only[List.mem_map,List.mem_flatMap];constructor
 ·rintro⟨p,⟨u,h1,h2⟩,h3⟩;exact⟨u,h1,p,h2,h3⟩
 ·rintro⟨u,h1,p,h2,h3⟩;exact⟨p,⟨u,h1,h2⟩,h3⟩
theorem MO.xW {S:Nat→Ft} (K:MO X ρ F o c h S):∀{N:List Nat},N.Nodup→(∀u∈N,∃y,look o u=some y)→(dI (N.flatMap S)).Nodup
 |[],_,_=>by simp[dI]
 |u::N,hn,hd=>by
  obtain⟨h1,h2⟩:=List.nodup_cons.1 hn;obtain⟨y,hy⟩:=hd u List.mem_cons_self;rw[List.flatMap_cons,qd];refine List.nodup_append.2 ⟨K.DZ u y hy,K.xW h2 fun v hv=>hd v (List.mem_cons_of_mem _ hv),fun a ha b hb e=>?_⟩;subst e;obtain⟨v,hv,hx⟩:=EK.1 hb;obtain⟨y',ZT⟩:=hd v (List.mem_cons_of_mem _ hv);have:=K.fu u v y y' a hy ZT ha hx;subst this;exact h1 hv
section
variable {S S1:Nat→Ft} {U:List Nat} {o1:Ob} {Ns:Nat→List Nat}
theorem Told.mem (D:Told X ρ F o h S ids U o1 S1 Ns) {n:Nat} {y:TO} (hl:look o1 n=some y) {x:Nat}:x∈dI (S1 n)↔∃u∈Ns n,x∈dI (S u):=by
 rw[←EK];exact((D.perm n y hl).map _).mem_iff
theorem Told.ZU (D:Told X ρ F o h S ids U o1 S1 Ns) (K:MO X ρ F o c h S) {n:Nat} {y:TO} (hl:look o1 n=some y):(dI (S1 n)).Nodup:=
 ((D.perm n y hl).map _).nodup_iff.2 (K.xW (D.DZ n y hl) fun u hu=>D.gh n y u hl hu)
theorem Told.fu (D:Told X ρ F o h S ids U o1 S1 Ns) (K:MO X ρ F o c h S) {n1 n2:Nat} {y1 y2:TO} {x:Nat} (h1:look o1 n1=some y1) (h2:look o1 n2=some y2) (k1:x∈dI (S1 n1)) (k2:x∈dI (S1 n2)):n1=n2:=by
 obtain⟨u,a1,a2⟩:=(D.mem h1).1 k1;obtain⟨v,b1,b2⟩:=(D.mem h2).1 k2;obtain⟨_,c1⟩:=D.gh _ _ _ h1 a1;obtain⟨_,c2⟩:=D.gh _ _ _ h2 b1;have:=K.fu u v _ _ x c1 c2 a2 b2;subst this;exact D.one _ _ _ _ _ h1 h2 a1 b1
theorem Told.fv (D:Told X ρ F o h S ids U o1 S1 Ns) (K:MO X ρ F o c h S) {n:Nat} {y:TO} {x:Nat} (hl:look o1 n=some y) (k:x∈dI (S1 n)):X.base≤x∧x<h.size∧(X.M x∨X.h0.size≤x):=by
 obtain⟨u,a1,a2⟩:=(D.mem hl).1 k;obtain⟨_,c1⟩:=D.gh _ _ _ hl a1;exact K.fv u _ x c1 a2
theorem Told.apart (D:Told X ρ F o h S ids U o1 S1 Ns) (K:MO X ρ F o c h S) {n:Nat} {y:TO} {x b:Nat} (hl:look o1 n=some y) (k:(x,true)∈S1 n) (hb:F b):hd h b≠x:=by
 have:=(D.perm n y hl).mem_iff.1 k;obtain⟨u,a1,a2⟩:=List.mem_flatMap.1 this;obtain⟨_,c1⟩:=D.gh _ _ _ hl a1;exact K.apart u _ x b c1 a2 hb
end
theorem xX (_:∀n l,ρ n=some l→n<c) {o1:Ob} {n:Nat} {l:Loc} (h:fy ids (HV o1) ρ n=some l):n<ids.length:=by
 unfold fy at h;cases hq:ids[n]? with
 |none=>rw[hq]at h;cases h
 |some q=>exact rV hq
theorem Mem.le (H:Mem X ρ F o c h) {U:List Nat} {o1:Ob} (hi:iA c ids=true) (hp:pd X.c0 0 ids=true) (hU:mC ids U=true) (hO:JH ids o U o1):
 Mem X (fy ids (HV o1) ρ) F o1 ids.length h:=by
 obtain⟨S,K⟩:=H.ex;obtain⟨S1,Ns,D⟩:=hO.told H K hi hU;have pre:=AX hp;refine⟨⟨S1,D.b9,fun n y hl=>D.ZU K hl,fun n1 n2 y1 y2 x h1 h2=>D.fu K h1 h2,fun n y x hl=>D.fv K hl,fun n y x b hl=>D.apart K hl⟩,fun n l hn=>xX H.names hn,H.frozen,H.F0,H.wf,H.oQ,H.lK,H.CV,?_,fun k l hk hl=>?_,fun k b hk hb=>?_⟩
 ·rcases Nat.lt_or_ge ids.length X.c0 with h1|h1
  ·have:=rV (pre ids.length h1);omega
  ·exact h1
 ·have:=pre k hk;rw[Nat.zero_add]at this;exact H.CW.2.1 k l hk (by simpa[fy,this]using hl)
 ·have:=pre k hk;rw[Nat.zero_add]at this;simp only[fy,this];exact H.CW.2.2 k b hk hb
theorem Mem.cH (sh:List Nat):∀{F:Nat→Prop} {o:Ob},Mem X ρ F o c h→∃F',Mem X ρ F' (M.cH sh o) c h∧(∀t v,VR c ρ F h t v→VR c ρ F' h t v)∧(∀b,F b→F' b):=by
 induction sh with
 |nil=>intro F o H;exact⟨F,H,fun _ _ h=>h,fun _ h=>h⟩
 |cons m sh ih=>
  intro F o H;obtain⟨F1,H1,m1,f1,_⟩:=H.share m;obtain⟨F2,H2,m2,f2⟩:=ih H1;exact⟨F2,H2,fun t v h=>m2 t v (m1 t v h),fun b h=>f2 b (f1 b h)⟩
end
def mD (S:Nat→Ft) (o:Ob):Nat→Prop:=fun x=>∃k y,look o k=some y∧x∈dI (S k)
def HX (base:Nat) (ρ:Gh) (F:Nat→Prop) (o:Ob) (c:Nat) (h:ae) (S:Nat→Ft):Cx:=⟨base,h,mD S o,F,c,ρ⟩
def m3 (T:Env) (F:Nat→Prop) (h:ae):Prop:=∀g cs,T.xc g=some cs→F g∧h.rd g=some cs∧True
def HY (T:Env) (X:Cx):Prop:=m3 T X.F0 X.h0
theorem HY.now {T:Env} {X:Cx} {ρ:Gh} {F:Nat→Prop} {o:Ob} {c:Nat} {h:ae} (N:HY T X) (H:Mem X ρ F o c h):m3 T F h:=fun g cs hg=>
 let⟨n1,n2,n3⟩:=N g cs hg
 ⟨H.F0 g n1,(H.oQ.db g n1).trans n2,n3⟩
def VC (E:Env):Nh:=fun g c args o R=>
 ∀(base:Nat) (ρ:Gh) (F:Nat→Prop) (h:ae) (S:Nat→Ft) (b7:List Value),m3 E F h→Mem (HX base ρ F o c h S) ρ F o c h→MO (HX base ρ F o c h S) ρ F o c h S→dF c ρ F h args b7→
  ∃n v h' ρ' F' r o' c',g9 E base n g b7 h=some (v,h')∧R r o' c'∧Mem (HX base ρ F o c h S) ρ' F' o' c' h'∧VR c' ρ' F' h' r v
theorem Evo.refl (M F0:Nat→Prop) (h:ae):Evo M F0 h h:=⟨Nat.le_refl _,fun _ _ _=>rfl,fun _ _=>rfl,fun _ _=>rfl⟩
section
variable {X:Cx} {ρ:Gh} {F:Nat→Prop} {o:Ob} {c:Nat} {h:ae} {ids:List (Option Nat)}
theorem Mem.hand (H:Mem X ρ F o c h) {S S1:Nat→Ft} {U:List Nat} {Ns:Nat→List Nat} (K:MO X ρ F o c h S) {o0:Ob} (D:Told X ρ F o h S ids U o0 S1 Ns):
 Mem (HX X.base (fy ids (HV o0) ρ) F o0 ids.length h S1) (fy ids (HV o0) ρ) F o0 ids.length h∧MO (HX X.base (fy ids (HV o0) ρ) F o0 ids.length h S1) (fy ids (HV o0) ρ) F o0 ids.length h S1:=by
 have M:MO (HX X.base (fy ids (HV o0) ρ) F o0 ids.length h S1) (fy ids (HV o0) ρ) F o0 ids.length h S1:=
  ⟨D.b9,fun n y hl=>D.ZU K hl,fun n1 n2 y1 y2 x h1 h2=>D.fu K h1 h2,fun n y x hl hx=>⟨(D.fv K hl hx).1,(D.fv K hl hx).2.1,.inl ⟨n,y,hl,hx⟩⟩,fun n y x b hl=>D.apart K hl⟩
 exact⟨⟨⟨S1,M⟩,fun n l hn=>xX H.names hn,H.frozen,fun _ hb=>hb,H.wf,.refl _ _ _,H.lK,fun _ hb=>.inl hb,Nat.le_refl _,fun _ _ _ hl=>hl,fun _ _ _ hb=>hb⟩,M⟩
open Classical in
noncomputable def qK (ids:List (Option Nat)) (c:Nat) (ρ ρ':Gh):Gh:=fun n=>
 if hx:∃k:Nat,ids[k]? =some (some n)then ρ' (Classical.choose hx)else if n<c then ρ n else if(∃m:Nat,ids[n - c]? =some (some m))then none else ρ' (n - c)
theorem HZ {ρ':Gh} (hi:iA c ids=true) {k m:Nat} (hk:ids[k]? =some (some m)):qK ids c ρ ρ' m=ρ' k:=by
 unfold qK;have hx:∃k:Nat,ids[k]? =some (some m):=⟨k,hk⟩;rw[dif_pos hx,mZ hi (Classical.choose_spec hx) hk]
theorem wP {ρ':Gh} {n:Nat} (hn:∀k:Nat,ids[k]? ≠some (some n)) (hc:n<c):qK ids c ρ ρ' n=ρ n:=by
 unfold qK;rw[dif_neg (fun⟨k,hk⟩=>hn k hk),if_pos hc]
theorem Om {ρ':Gh} (hi:iA c ids=true) (k:Nat):qK ids c ρ ρ' (back ids c k)=ρ' k:=by
 unfold back;split
 ·rename_i m hm;exact HZ hi hm
 ·rename_i vx;unfold qK;rw[dif_neg,if_neg om,if_neg,Nat.add_sub_cancel_left]
  ·rintro⟨m,hm⟩;rw[Nat.add_sub_cancel_left]at hm;exact vx m hm
  ·rintro⟨k',o8⟩;have:=kT hi o8;omega
theorem xY (hi:iA c ids=true) {k k':Nat} (h:back ids c k=back ids c k'):k=k':=by
 unfold back at h;split at h
 ·rename_i m hm;split at h
  ·rename_i m' SC;subst h;exact mZ hi hm SC
  ·have:=kT hi hm;omega
 ·split at h
  ·rename_i m' SC;have:=kT hi SC;omega
  ·omega
theorem SE (hi:iA c ids=true) {k c':Nat} (hk:k<c'):back ids c k<c+c':=by
 unfold back;split
 ·rename_i m hm;have:=kT hi hm;omega
 ·omega
theorem m4 (β:Nat→Nat):∀(l:List TV) (i:Nat),(TV.gN β l)[i]? =(l[i]?).map (TV.mB β)
 |[],i=>by simp[TV.gN]
 |v::l,i=>by
  cases i with
  |zero=>simp[TV.gN]
  |succ i=>simp[TV.gN,m4 β l i]
theorem fU (β:Nat→Nat):∀(l:List TV),(TV.gN β l).length=l.length
 |[]=>rfl
 |v::l=>by simp[TV.gN,fU β l]
theorem VR.mB {c' cc:Nat} {ρ' Nj:Gh} {F':Nat→Prop} {h':ae} {β:Nat→Nat} (C0:∀k,k<c'→β k<cc) (fw:∀k,Nj (β k)=ρ' k) {t:TV} {x:Value} (H:VR c' ρ' F' h' t x):VR cc Nj F' h' (t.mB β) x:=by
 induction H with
 |j v=>exact .j v
 |s hp=>exact .s hp
 |nil he=>exact .nil he
 |sl h1 h2 h3 h4 h5 h6 h7 h8 h9 hc _=>exact .sl h1 h2 h3 h4 h5 h6 h7 h8 h9 fun i j e t v q1 q2 q3=>(hc i j e t v q1 q2 q3).dp (h9 e (List.mem_of_getElem? q1) t (List.mem_of_getElem? q2))
 |tk hn kD ha h0=>exact .tk (C0 _ hn) kD (fun b z len hx=>ha b z len (by rw[←fw];exact hx)) (fun z hx=>h0 z (by rw[←fw];exact hx))
 |ptr hb=>exact .ptr (by rw[fw];exact hb)
 |ep h1 h2 h3 h4 hc _=>exact .ep h1 h2 h3 h4 fun j t v q1 q2=>(hc j t v q1 q2).dp (h4 t (List.mem_of_getElem? q1))
 |wp hn kD ha h0=>exact .wp (C0 _ hn) kD (fun b z len hx=>ha b z len (by rw[←fw];exact hx)) (fun z hx=>h0 z (by rw[←fw];exact hx))
 |mp hb=>exact .mp (by rw[fw];exact hb)
 |bg hb=>exact .bg (by rw[fw];exact hb)
 |sv hn kD ha h0=>exact .sv (C0 _ hn) kD (fun b z len hx=>ha b z len (by rw[←fw];exact hx)) (fun z hx=>h0 z (by rw[←fw];exact hx))
 |pv hn kD ha h0=>exact .pv (C0 _ hn) kD (fun b z len hx=>ha b z len (by rw[←fw];exact hx)) (fun z hx=>h0 z (by rw[←fw];exact hx))
 |agg hs _ ih=>
  refine .agg (by rw[fU];exact hs) fun i t v q1 q2=>?_;rw[m4,Option.map_eq_some_iff]at q1;obtain⟨t0,q3,rfl⟩:=q1;exact ih i t0 v q3 q2
 |c4 hs _ ih=>
  refine .c4 (by rw[fU];exact hs) fun i t v q1 q2=>?_;rw[m4,Option.map_eq_some_iff]at q1;obtain⟨t0,q3,rfl⟩:=q1;exact ih i t0 v q3 q2
 |nz _ ih=>exact .nz ih
 |cW hs _ ht _ zW zX=>
  refine .cW (by rw[fU];exact hs) (fun i t v q1 q2=>?_) (by rw[fU];exact ht) (fun i t v q1 q2=>?_)
  ·rw[m4,Option.map_eq_some_iff]at q1;obtain⟨t0,q3,rfl⟩:=q1;exact zW i t0 v q3 q2
  ·rw[m4,Option.map_eq_some_iff]at q1;obtain⟨t0,q3,rfl⟩:=q1;exact zX i t0 v q3 q2
theorem dF.mB {c' cc:Nat} {ρ' Nj:Gh} {F':Nat→Prop} {h':ae} {β:Nat→Nat} (C0:∀k,k<c'→β k<cc) (fw:∀k,Nj (β k)=ρ' k) {l:List TV} {m:List Value} (H:dF c' ρ' F' h' l m):dF cc Nj F' h' (TV.gN β l) m:=by
 refine⟨by rw[fU];exact H.1,fun i t v q1 q2=>?_⟩;rw[m4,Option.map_eq_some_iff]at q1;obtain⟨t0,q3,rfl⟩:=q1;exact(H.2 i t0 v q3 q2).mB C0 fw
theorem On (β:Nat→Nat) {t:TV} (hf:fz t=true):t.mB β=t:=by
 unfold fz at hf;split at hf<;>first|rfl |(simp[TV.mB];done)|(simp[TV.mB,TV.gN];done)|cases hf
theorem Oo (β:Nat→Nat) {t:TV} (hf:mX t=true):t.mB β=t:=by
 unfold mX at hf;split at hf
 ·simp[TV.mB]
 ·exact On β hf
theorem xZ (β:Nat→Nat):∀{l:List TV},(∀t∈l,mX t=true)→TV.gN β l=l
 |[],_=>rfl
 |t::l,h=>by simp only[TV.gN];rw[Oo β (h t List.mem_cons_self),xZ β fun t ht=>h t (List.mem_cons_of_mem _ ht)]
theorem EL (β:Nat→Nat) (a b:List TV):TV.gN β (a++b)=TV.gN β a++TV.gN β b:=by
 induction a with
 |nil=>rfl
 |cons t l ih=>simp[TV.gN,ih]
theorem C1 (β:Nat→Nat) (l:List (List TV)):TV.gN β l.flatten=(l.map (TV.gN β)).flatten:=by
 induction l with
 |nil=>rfl
 |cons t l ih=>simp[EL,ih]
theorem EM (β:Nat→Nat) {es:List (List TV)} (bV:∀e∈es,∀t∈e,mX t=true):∀op,cP es (xP β op)=(cP es op).map (TV.gN β)
 |[]=>by
  show es=es.map (TV.gN β);refine List.ext_getElem? fun i=>?_;rw[List.getElem?_map];cases he:es[i]? with
  |none=>rfl
  |some e=>simp[xZ β (bV e (List.mem_of_getElem? he))]
 |p::l=>by
  show(cP es (xP β l)).set p.1 (TV.gN β p.2)=((cP es l).set p.1 p.2).map (TV.gN β);rw[EM β bV l,List.map_set]
theorem EN (f:TV→TV) (k:Value) (v:TV):∀es:List (Value×TV),(dC es k v).map (fun e=>(e.1,f e.2))=dC (es.map fun e=>(e.1,f e.2)) k (f v)
 |[]=>rfl
 |e::es=>by
  simp only[dC,List.map_cons];cases lV k e.1 with
  |true=>rfl
  |false=>simp[EN f k v es]
theorem AZ (β:Nat→Nat) (v:TV):aE (v.mB β)=TV.gN β (aE v)∧dm (v.mB β)=dm v:=by
 cases v<;>simp[TV.mB,aE,dm,TV.gN]
theorem SF (β:Nat→Nat) {v:TV} (h:∀t∈aE v,mX t=true):v.mB β=v:=by
 cases v with
 |agg cs=>
  have e:TV.gN β cs=cs:=xZ β h;simp only[TV.mB,e]
 |_=>exact Oo β (h _ (by simp[aE]))
theorem JP (β:Nat→Nat) {es:List (Value×TV)} (bV:∀e∈es,∀t∈aE e.2,mX t=true):∀op,Of es (JI β op)=(Of es op).map fun e=>(e.1,e.2.mB β)
 |[]=>by
  show es=es.map fun e=>(e.1,e.2.mB β);refine List.ext_getElem? fun i=>?_;rw[List.getElem?_map];cases he:es[i]? with
  |none=>rfl
  |some e=>simp[SF β (bV e (List.mem_of_getElem? he))]
 |p::l=>by
  show dC (Of es (JI β l)) p.1 (p.2.mB β)=(dC (Of es l) p.1 p.2).map fun e=>(e.1,e.2.mB β);rw[JP β bV l,EN]
section
variable {c' cc:Nat} {ρ' Nj:Gh} {F':Nat→Prop} {h':ae} {β:Nat→Nat} {base:Nat} {S:Ft}
theorem cU.mB (C0:∀k,k<c'→β k<cc) (fw:∀k,Nj (β k)=ρ' k) {l:List TV} {m:List Value} (H:cU c' ρ' F' h' base S l m):cU cc Nj F' h' base S (TV.gN β l) m:=by
 induction H with
 |nil=>exact .nil
 |vr hv _ ih=>exact .vr (hv.mB C0 fw) ih
 |cl hv _ ih=>
  rename_i t v l m _;have:t.mB β=t:=by
   cases hv with
   |fz hf _=>exact On β hf
   |own=>simp[TV.mB]
  simp only[TV.gN];rw[this];exact .cl hv ih
theorem iC.mB (C0:∀k,k<c'→β k<cc) (fw:∀k,Nj (β k)=ρ' k) {kd:Nat} {l:List (Value×TV)} {m:List MapEntry} (H:iC c' ρ' F' h' base kd S l m):iC cc Nj F' h' base kd S (l.map fun e=>(e.1,e.2.mB β)) m:=by
 induction H with
 |nil=>exact .nil
 |cons hk jq ha hv _ ih=>
  exact .cons hk jq ((AZ β _).2.trans ha) (by rw[(AZ β _).1];exact hv.mB C0 fw) ih
theorem OR.mB {k:Nat} (C0:∀k,k<c'→β k<cc) (fw:∀k,Nj (β k)=ρ' k) {y:TO} (H:OR c' ρ' F' h' base k S y):OR cc Nj F' h' base (β k) S (y.mB β):=by
 cases H with
 |cells hb hg ht hc=>exact .cells ((fw k).trans hb) hg ht (hc.mB C0 fw)
 |map hb hg hl hc bN=>exact .map ((fw k).trans hb) hg hl (fun i e e' q1 q2=>let⟨r1,r2,r3,r4⟩:=hc i e e' q1 q2;⟨r1,r2,r3,r4.wM r3⟩) bN
 |nil hb hz=>exact .nil ((fw k).trans hb) hz
 |arr hb hg hf ht dX hz hlen he gV hc hF=>exact .arr ((fw k).trans hb) hg hf ht dX hz hlen he gV (fun i j e t v q1 q2 q3=>(hc i j e t v q1 q2 q3).dp (gV e (List.mem_of_getElem? q1) t (List.mem_of_getElem? q2))) hF
 |gF hb hz=>exact .gF ((fw k).trans hb) hz
 |b6 hb hg hf ht dX hz hlen he bV ju hc=>
  refine .b6 ((fw k).trans hb) hg hf ht dX hz hlen he bV (fun p hp=>?_) (by rw[EM β bV,←C1];exact hc.mB C0 fw);have key:∀op:List (Nat×List TV),p∈xP β op→∃q∈op,p.1=q.1∧p.2.length=q.2.length:=by
   intro op
   induction op with
   |nil=>intro h;simp[xP]at h
   |cons q l ih=>
    intro h;simp only[xP,List.mem_cons]at h;rcases h with rfl |h
    ·exact⟨q,List.mem_cons_self,rfl,fU β _⟩
    ·obtain⟨q',h1,h2⟩:=ih h;exact⟨q',List.mem_cons_of_mem _ h1,h2⟩
  obtain⟨q,h1,h2,h3⟩:=key _ hp;rw[h2,h3];exact ju q h1
 |fC hb hg bV hc bN=>exact .fC ((fw k).trans hb) hg bV (by rw[JP β bV];exact hc.mB C0 fw) bN
 |eE hb hg=>exact .eE ((fw k).trans hb) hg
end
theorem uy {β:Nat→Nat} (C0:∀k k',β k=β k'→k=k'):∀{o:Ob} {n:Nat} {y:TO},look (HQ β o) n=some y→∃k y0,n=β k∧look o k=some y0∧y=y0.mB β
 |[],n,y,h=>by cases h
 |p::l,n,y,h=>by
  simp only[HQ]at h;rw[aQ]at h;split at h
  ·rename_i e;cases h;exact⟨p.1,p.2,e.symm,by rw[aQ,if_pos rfl],rfl⟩
  ·rename_i e;obtain⟨k,y0,rfl,h2,h3⟩:=uy C0 h;refine⟨k,y0,rfl,?_,h3⟩;rw[aQ,if_neg (fun e2=>e (by rw[e2]))];exact h2
theorem nU:∀{ids:List (Option Nat)} {o:Ob} {n:Nat} {y:TO},look (kq ids o) n=some y→look o n=some y∧∀k:Nat,ids[k]? ≠some (some n)
 |[],o,n,y,h=>⟨h,fun k=>by simp⟩
 |none::l,o,n,y,h=>by
  obtain⟨h1,h2⟩:=nU (ids:=l) h;refine⟨h1,fun k=>?_⟩;cases k with
  |zero=>simp
  |succ k=>simpa using h2 k
 |some m::l,o,n,y,h=>by
  obtain⟨h1,h2⟩:=nU (ids:=l) h;rw[dD]at h1;by_cases e:n=m
  ·rw[if_pos e]at h1;cases h1
  ·rw[if_neg e]at h1;refine⟨h1,fun k=>?_⟩;cases k with
   |zero=>simp;exact fun e2=>e e2.symm
   |succ k=>simpa using h2 k
theorem x3:∀{U:List Nat} {o:Ob} {n:Nat} {y:TO},look (vA U o) n=some y→look o n=some y∧n∉U
 |[],o,n,y,h=>⟨h,by simp⟩
 |m::l,o,n,y,h=>by
  obtain⟨h1,h2⟩:=x3 (U:=l) h;rw[dD]at h1;by_cases e:n=m
  ·rw[if_pos e]at h1;cases h1
  ·rw[if_neg e]at h1;exact⟨h1,by simp[e,h2]⟩
open Classical in
theorem Mem.merge (H:Mem X ρ F o c h) {S S1:Nat→Ft} {U:List Nat} {Ns:Nat→List Nat} (K0:MO X ρ F o c h S) {o0:Ob} (hi:iA c ids=true) (D:Told X ρ F o h S ids U o0 S1 Ns) {ρ':Gh} {F':Nat→Prop} {o':Ob} {c':Nat} {h':ae}
 (K:Mem (HX X.base (fy ids (HV o0) ρ) F o0 ids.length h S1) ρ' F' o' c' h'):
 Mem X (qK ids c ρ ρ') F' (HQ (back ids c) o'++vA U (kq ids o)) (c+c') h'∧(∀t v,VR c ρ F h t v→VR (c+c') (qK ids c ρ ρ') F' h' t v)∧(∀t v,VR c' ρ' F' h' t v→VR (c+c') (qK ids c ρ ρ') F' h' (t.mB (back ids c)) v)∧
  ∀n y,look o n=some y→(∀k:Nat,ids[k]? ≠some (some n))→n∉U→∀x∈dI (S n),¬mD S1 o0 x:=by
 obtain⟨S',KO⟩:=K.ex;have hA:∀n l,n<c→qK ids c ρ ρ' n=some l→ρ n=some l:=fun n l hn hl=>by
  by_cases hx:∃k:Nat,ids[k]? =some (some n)
  ·obtain⟨k,hk⟩:=hx;rw[HZ hi hk]at hl;have:=K.CW.2.1 k l (rV hk) hl;simpa[HX,fy,hk]using this
  ·rwa [wP (fun k hk=>hx ⟨k,hk⟩) hn]at hl
 have hB:∀n b,ρ n=some (.di b)→qK ids c ρ ρ' n=some (.di b):=fun n b hb=>by
  by_cases hx:∃k:Nat,ids[k]? =some (some n)
  ·obtain⟨k,hk⟩:=hx;rw[HZ hi hk];exact K.CW.2.2 k b (rV hk) (by simpa[HX,fy,hk]using hb)
  ·rw[wP (fun k hk=>hx ⟨k,hk⟩) (H.names _ _ hb)];exact hb
 have C0:=fun k (hk:k<c')=>SE hi hk;have fw:=fun k=>Om (ρ:=ρ) (ρ':=ρ') hi k;have db:∀b cs,F b→h.rd b=some cs→h'.rd b=some cs:=fun b cs hb hr=>by rw[K.oQ.db b hb];exact hr
 have qW:∀b,F b→F' b:=fun b hb=>K.F0 b hb;have hm:∀t v,VR c ρ F h t v→VR (c+c') (qK ids c ρ ρ') F' h' t v:=fun t v=>VR.mono om hA hB qW db;have fO:h.size≤h'.size:=K.oQ.size
 -- families that the call may have changed
 have hM:∀x,mD S1 o0 x→∃(u:Nat) (y:TO),((∃k:Nat,ids[k]? =some (some u))∨u∈U)∧look o u=some y∧x∈dI (S u):=by
  rintro x ⟨k,y,hl,hh⟩;obtain⟨u,h1,h2⟩:=(D.mem hl).1 hh;obtain⟨y',h3⟩:=D.gh _ _ _ hl h1;exact⟨u,y',(D.ZS _ _ _ hl h1).imp (fun h=>⟨_,h⟩) id,h3,h2⟩
 have hMX:∀x,mD S1 o0 x→X.M x∨X.h0.size≤x:=fun x hx=>by
  obtain⟨u,y,_,h2,h3⟩:=hM x hx;exact(K0.fv u y x h2 h3).2.2
 have same:∀b,b<h.size→¬mD S1 o0 (hd h b)→h'.get b=h.get b:=fun b hb hx=>K.oQ.bw b hb hx;have out:∀n y,look o n=some y→(∀k:Nat,ids[k]? ≠some (some n))→n∉U→∀x∈dI (S n),¬mD S1 o0 x:=by
  intro n y hl h1 h2 x hx hy;obtain⟨u,y',q1,q2,q3⟩:=hM x hy;have:=K0.fu n u y y' x hl q2 hx q3;subst this;rcases q1 with⟨k,q1⟩|q1
  ·exact h1 k q1
  ·exact h2 q1
 let S2:Nat→Ft:=fun n=>if hx:∃k y0,n=back ids c k∧look o' k=some y0 then S' (Classical.choose hx)else S n
 have s2a:∀k y0,look o' k=some y0→S2 (back ids c k)=S' k:=fun k y0 hl=>by
  have hx:∃k' y0,back ids c k=back ids c k'∧look o' k'=some y0:=⟨k,y0,rfl,hl⟩;simp only[S2];rw[dif_pos hx];obtain⟨_,h1,_⟩:=Classical.choose_spec hx;rw[xY hi h1.symm]
 have lL:∀n y,look (HQ (back ids c) o'++vA U (kq ids o)) n=some y→
  (∃k y0,n=back ids c k∧look o' k=some y0∧y=y0.mB (back ids c)∧S2 n=S' k)∨
  (look o n=some y∧(∀k:Nat,ids[k]? ≠some (some n))∧n∉U∧S2 n=S n):=by
  intro n y hl;rw[jN]at hl;split at hl
  ·rename_i y1 h1;cases hl;obtain⟨k,y0,rfl,h2,rfl⟩:=uy (fun k k'=>xY hi) h1;exact .inl ⟨k,y0,rfl,h2,rfl,s2a k y0 h2⟩
  ·rename_i vx;obtain⟨h1,h2⟩:=x3 hl;obtain⟨h3,h4⟩:=nU h1;refine .inr ⟨h3,h4,h2,?_⟩;simp only[S2];rw[dif_neg];rintro⟨k,y0,rfl,hk⟩;have G3:=H.lt h3;unfold back at h4 G3;split at G3
   ·rename_i m hm;rw[hm]at h4;exact h4 k hm
   ·omega
 have old:∀n y,look o n=some y→(∀k:Nat,ids[k]? ≠some (some n))→n∉U→OR (c+c') (qK ids c ρ ρ') F' h' X.base n (S n) y:=fun n y hl h1 h2=>
  (K0.b9 n y hl).bw (T:=mD S1 o0) H.wf same (out n y hl h1 h2) qW db hm (wP h1 (H.lt hl))
 -- a family of the call's is none of the others
 have apart:∀k y0 x,look o' k=some y0→x∈dI (S' k)→mD S1 o0 x∨h.size≤x:=fun k y0 x hl hh=>(KO.fv k y0 x hl hh).2.2;refine⟨⟨⟨S2,fun n y hl=>?_,fun n y hl=>?_,fun n1 n2 y1 y2 x h1 h2 k1 k2=>?_,fun n y x hl hh=>?_,fun n y x b hl hs hb=>?_⟩,fun n l hn=>?_,fun b hb=>K.frozen b hb,fun b hb=>qW b (H.F0 b hb),K.wf,⟨Nat.le_trans H.oQ.size fO,fun b hb hMb=>?_,fun b hb=>?_,fun b hb=>?_⟩,Nat.le_trans H.lK fO,fun b hb=>?_,?_,fun k l hk hl=>?_,fun k b hk hb=>?_⟩,hm,fun t v=>VR.mB C0 fw,out⟩
 ·rcases lL n y hl with⟨k,y0,rfl,h1,rfl,h2⟩|⟨h1,h2,h3,h4⟩
  ·rw[h2];exact(KO.b9 k y0 h1).mB C0 fw
  ·rw[h4];exact old n y h1 h2 h3
 ·rcases lL n y hl with⟨k,y0,rfl,h1,rfl,h2⟩|⟨h1,h2,h3,h4⟩
  ·rw[h2];exact KO.DZ k y0 h1
  ·rw[h4];exact K0.DZ n y h1
 ·rcases lL n1 y1 h1 with⟨k,z1,rfl,a1,_,e1⟩|⟨a1,f1,g1,e1⟩<;>rcases lL n2 y2 h2 with⟨k',z2,rfl,a2,_,e2⟩|⟨a2,f2,g2,e2⟩
  ·rw[e1]at k1;rw[e2]at k2;rw[KO.fu k k' z1 z2 x a1 a2 k1 k2]
  ·rw[e1]at k1;rw[e2]at k2;rcases apart _ _ _ a1 k1 with h3|h3
   ·exact absurd h3 (out _ _ a2 f2 g2 x k2)
   ·have:=(K0.fv _ _ _ a2 k2).2.1;omega
  ·rw[e1]at k1;rw[e2]at k2;rcases apart _ _ _ a2 k2 with h3|h3
   ·exact absurd h3 (out _ _ a1 f1 g1 x k1)
   ·have:=(K0.fv _ _ _ a1 k1).2.1;omega
  ·rw[e1]at k1;rw[e2]at k2;exact K0.fu _ _ _ _ x a1 a2 k1 k2
 ·rcases lL n y hl with⟨k,z1,rfl,a1,_,e1⟩|⟨a1,_,_,e1⟩
  ·rw[e1]at hh;obtain⟨q1,q2,q3⟩:=KO.fv _ _ _ a1 hh;refine⟨q1,q2,?_⟩;rcases q3 with q3|q3
   ·exact hMX x q3
   ·exact .inr (Nat.le_trans H.oQ.size q3)
  ·rw[e1]at hh;obtain⟨q1,q2,q3⟩:=K0.fv _ _ _ a1 hh;exact⟨q1,Nat.lt_of_lt_of_le q2 fO,q3⟩
 ·rcases lL n y hl with⟨k,z1,rfl,a1,e0,e1⟩|⟨a1,f1,g1,e1⟩
  ·rw[e1]at hs;exact KO.apart k z1 x b a1 hs hb
  ·rw[e1]at hs;have M9:=(K0.fv _ _ _ a1 (dS hs)).2.1;intro e;rcases K.CV b hb with h3|h3|h3
   ·have D0:F b:=h3;rw[K.oQ.dI b (H.Ll D0)]at e;exact K0.apart _ _ _ b a1 hs D0 e
   ·rw[e]at h3;exact out _ _ a1 f1 g1 x (dS hs) h3
   ·rw[e]at h3;have:h.size≤x:=h3;omega
 ·by_cases hx:∃k:Nat,ids[k]? =some (some n)
  ·obtain⟨k,hk⟩:=hx;have:=kT hi hk;omega
  ·rcases Nat.lt_or_ge n c with h1|h1
   ·omega
   ·have hnk:¬∃m:Nat,ids[n - c]? =some (some m):=fun⟨m,hm⟩=>by
     simp only[qK]at hn;rw[dif_neg hx,if_neg om,if_pos ⟨m,hm⟩]at hn;cases hn
    simp only[qK]at hn;rw[dif_neg hx,if_neg om,if_neg hnk]at hn;have:=K.names _ _ hn;omega
 ·have h1:=H.oQ.bw b hb hMb;have h2:=H.oQ.dI b hb;rw[same b (Nat.lt_of_lt_of_le hb H.oQ.size) ?_,h1];intro hx;rw[h2]at hx;rcases hMX _ hx with k|k
  ·exact hMb k
  ·have:=H.wf.JL b;rw[h2]at this;omega
 ·have:=H.F0 b hb;exact(K.oQ.db b this).trans (H.oQ.db b hb)
 ·exact(K.oQ.dI b (Nat.lt_of_lt_of_le hb H.oQ.size)).trans (H.oQ.dI b hb)
 ·rcases K.CV b hb with h3|h3|h3
  ·have D0:F b:=h3;rw[K.oQ.dI b (H.Ll D0)];exact H.CV b D0
  ·exact .inr (hMX _ h3)
  ·exact .inr (.inr (Nat.le_trans H.oQ.size h3))
 ·have:=H.CW.1;omega
 ·exact H.CW.2.1 k l hk (hA k l (Nat.lt_of_lt_of_le hk H.CW.1) hl)
 ·exact hB k b (H.CW.2.2 k b hk hb)
end
end Go.M
namespace Go.M
open Go
def EO (run run':zV):Prop:=∀c f h r,run c f h=some r→run' c f h=some r
def x4 (cf Rx:eR):Prop:=∀g a h r,cf g a h=some r→Rx g a h=some r
def wQ (rf Ry:dP):Prop:=∀l a h r,rf l a h=some r→Ry l a h=some r
section
variable {E:Env} {base:Nat}
theorem qg {run run':zV} (H:EO run run'):x4 (fE E base run) (fE E base run'):=by
 intro g a h r hr;unfold fE at hr ⊢;simp only[Option.bind_eq_some_iff]at hr ⊢;obtain⟨fn,h1,h2⟩:=hr;refine⟨fn,h1,?_⟩;split at h2
 ·rename_i q hq;simpa[hq]using h2
 ·rename_i hq;simp only[Option.bind_eq_some_iff,aj]at h2 ⊢;obtain⟨c,h3,h4,h5⟩:=h2;refine⟨c,h3,h4,?_⟩;split at h5
  ·rename_i f' h' hx;rw[H _ _ _ _ hx];exact h5
  ·rename_i f' h' hx;rw[H _ _ _ _ hx];exact h5
  ·cases h5
theorem x5 {run run':zV} (H:EO run run'):wQ (gT base run) (gT base run'):=by
 intro l a h r hr;unfold gT at hr ⊢;rw[aj]at hr ⊢;refine⟨hr.1,?_⟩;obtain⟨_,hr⟩:=hr;split at hr
 ·rename_i p f ps jl body hg;rw[aj]at hr ⊢;refine⟨hr.1,?_⟩;obtain⟨_,hr⟩:=hr;split at hr
  ·rename_i f1 h1 hx;rw[H _ _ _ _ hx];simp only
   split at hr
   ·rename_i p1 f0 GY qE j8 xj;simp only[Option.bind_eq_some_iff]at hr ⊢;obtain⟨q,h2,h3⟩:=hr;exact⟨q,H _ _ _ _ h2,h3⟩
   ·cases hr
  ·cases hr
 ·cases hr
theorem EP {cf Rx:eR} {rf Ry:dP} (H:x4 cf Rx) (G:wQ rf Ry) {o:Oper} {f:AF} {h:ae} {r:Uz} (hr:dW E base cf rf o f h=some r):dW E base Rx Ry o f h=some r:=by
 unfold dW at hr ⊢;cases hv:aX E f o with
 |some v=>rw[hv]at hr;exact hr
 |none=>
  rw[hv]at hr;simp only at hr ⊢;cases hq:bW E f o with
  |some q=>rw[hq]at hr;exact hr
  |none=>
   rw[hq]at hr;simp only at hr ⊢;cases hm:br E f o with
   |some m=>rw[hm]at hr;exact hr
   |none=>
    rw[hm]at hr;simp only at hr ⊢;cases he:dj E base f o h with
    |none=>rw[he]at hr;cases hr
    |some p=>
     rw[he]at hr;obtain⟨x,h'⟩:=p;cases x with
     |val v=>exact hr
     |enter g args=>
      simp only[Option.bind_eq_some_iff]at hr ⊢;obtain⟨q,h1,h2⟩:=hr;exact⟨q,H _ _ _ _ h1,h2⟩
     |round l args=>
      simp only[Option.bind_eq_some_iff]at hr ⊢;obtain⟨q,h1,h2⟩:=hr;exact⟨q,G _ _ _ _ h1,h2⟩
theorem C2 {cf Rx:eR} {rf Ry:dP} (H:x4 cf Rx) (G:wQ rf Ry) {ops:List Oper}:∀{rest:List Oper} {f:AF} {h:ae} {r:AF×ae},rz E base cf rf ops rest f h=some r→rz E base Rx Ry ops rest f h=some r
 |[],f,h,r,hr=>hr
 |o::rest,f,h,r,hr=>by
  unfold rz at hr ⊢;split at hr
  ·simp only[Option.bind_eq_some_iff]at hr ⊢;obtain⟨q,h1,h2⟩:=hr;exact⟨q,EP H G h1,C2 H G h2⟩
  ·exact C2 H G hr
theorem x6 {cf Rx:eR} {rf Ry:dP} (H:x4 cf Rx) (G:wQ rf Ry) {ops:List Oper}:∀{rest:List Oper} {f:AF} {h:ae} {r:AF×ae×List dU},jG E base cf rf ops rest f h=some r→jG E base Rx Ry ops rest f h=some r
 |[],f,h,r,hr=>hr
 |o::rest,f,h,r,hr=>by
  unfold jG at hr ⊢;split at hr
  ·simp only[Option.bind_eq_some_iff]at hr ⊢;obtain⟨q,h1,q2,h2,h3⟩:=hr;exact⟨q,EP H G h1,q2,x6 H G h2,h3⟩
  ·simp only[Option.bind_eq_some_iff]at hr ⊢;obtain⟨q2,h2,h3⟩:=hr;exact⟨q2,x6 H G h2,h3⟩
theorem H4 {run run':zV} (H:EO run run') {ops:Array Oper} {draw:Bool} {f:AF} {h:ae} {r:Ex×AF×ae} (hr:kl E base run ops draw f h=some r):kl E base run' ops draw f h=some r:=by
 unfold kl at hr ⊢;split at hr
 ·simp only[Option.bind_eq_some_iff]at hr ⊢;obtain⟨q,h1,h2⟩:=hr;exact⟨q,C2 (qg H) (x5 H) h1,h2⟩
 ·simp only[Option.bind_eq_some_iff,aj]at hr ⊢;obtain⟨h0,q,h1,h2⟩:=hr;exact⟨h0,q,x6 (qg H) (x5 H) h1,h2⟩
theorem ES:∀{n m:Nat},n≤m→EO (aV E base n) (aV E base m)
 |0,m,_=>fun c f h r hr=>by simp[aV]at hr
 |n+1,0,h=>by omega
 |n+1,m+1,Oh=>by
  have ih:EO (aV E base n) (aV E base m):=ES om;intro c f h r hr;unfold aV at hr ⊢;cases c with
  |skip=>exact hr
  |region id ops draw=>exact H4 ih hr
  |seq a b=>
   simp only at hr ⊢;cases hx:aV E base n a f h with
   |none=>rw[hx]at hr;cases hr
   |some q=>
    rw[hx]at hr;rw[ih _ _ _ _ hx];obtain⟨ex,f',h'⟩:=q;cases ex with
    |normal=>exact ih _ _ _ _ hr
    |exit id=>exact hr
    |ret=>exact hr
  |cond c t e=>
   simp only[Option.bind_eq_some_iff]at hr ⊢;obtain⟨v,h1,b,h2,h3⟩:=hr;refine⟨v,h1,b,h2,?_⟩;cases b<;>exact ih _ _ _ _ h3
  |block id b=>
   simp only at hr ⊢;cases hx:aV E base n b f h with
   |none=>rw[hx]at hr;cases hr
   |some q=>rw[hx]at hr;rw[ih _ _ _ _ hx];exact hr
  |loop b=>
   simp only at hr ⊢;cases hx:aV E base n b f h with
   |none=>rw[hx]at hr;cases hr
   |some q=>
    rw[hx]at hr;rw[ih _ _ _ _ hx];obtain⟨ex,f',h'⟩:=q;cases ex with
    |normal=>exact ih _ _ _ _ hr
    |exit id=>exact hr
    |ret=>exact hr
  |exit id=>exact hr
  |ret=>exact hr
  |rangeFunc g ps jl body=>
   simp only[Option.bind_eq_some_iff,aj]at hr ⊢;obtain⟨g',h1,h2,h3⟩:=hr;refine⟨g',h1,h2,?_⟩;split at h3
   ·simp only[Option.bind_eq_some_iff]at h3 ⊢;obtain⟨q,h4,h5⟩:=h3;refine⟨q,qg ih _ _ _ _ h4,?_⟩;split at h5
    ·rw[aj]at h5 ⊢;refine⟨h5.1,?_⟩;obtain⟨_,h5⟩:=h5;split at h5
     ·exact h5
     ·exact ih _ _ _ _ h5
    ·cases h5
   ·cases h3
  |_=>exact hr
theorem Oq {n m:Nat} (h:n≤m):x4 (g9 E base n) (g9 E base m):=qg (ES h)
end
end Go.M
