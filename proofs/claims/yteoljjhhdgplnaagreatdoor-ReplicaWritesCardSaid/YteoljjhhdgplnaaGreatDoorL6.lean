/-
  Part 6 of the library that the proof leans on.
-/
import Derived.Test.YteoljjhhdgplnaaGreatDoorL5
namespace Go.M
open Go
section
variable {X:Cx} {ρ ρ':Gh} {F:Nat→Prop} {o o':Ob} {c c':Nat} {h h':ah}
theorem ext_get {f aF t0 eg:Nat} {c0 cs:List Value} (hf:h.get f=some (.cells c0 f t0 eg)) (b:Nat):(dz h f aF cs).get b=if b=h.size then some (.cells cs f 0 0)else if b=f then some (.cells c0 f h.size aF)else h.get b:=by
 unfold dz;rw[ah.ak,bk,bf,hf]
theorem qi {f aF:Nat} {cs:List Value}:(dz h f aF cs).size=h.size+1:=by unfold dz;rw[ah.size_push,bk]
theorem J4 (W:Wf h) {f aF t0 eg:Nat} {c0 cs:List Value} (hf:h.get f=some (.cells c0 f t0 eg)):Wf (dz h f aF cs):=by
 have pQ:=W.lt hf;refine⟨fun b hb=>?_,fun b cs' f' t th hg=>?_⟩
 ·rw[qi]at hb;rw[ext_get hf,if_neg om,if_neg om];exact W.high b om
 ·rw[ext_get hf]at hg;split at hg
  ·cases hg;omega
  ·split at hg
   ·cases hg;omega
   ·exact W.le _ _ _ _ _ hg
theorem RG {f aF t0 eg:Nat} {c0 cs:List Value} (hf:h.get f=some (.cells c0 f t0 eg)) {b:Nat} (hb:b<h.size):hd (dz h f aF cs) b=hd h b:=by
 unfold hd;rw[ext_get hf,if_neg om];by_cases e:b=f
 ·subst e;rw[if_pos rfl,hf]
 ·rw[if_neg e]
theorem J5 (W:Wf h) {f t0 aF:Nat} {c0 cs:List Value} (hf:h.get f=some (.cells c0 f t0 aF)) {b:Nat} {l:List Value} (hr:h.rd b=some l):(dz h f aF cs).rd b=some l:=by
 obtain⟨r,h1,h2,h3⟩:=rd_some hr;obtain⟨f1,t1,ue,hg⟩:=di h3;obtain⟨cr,mC⟩:=bw h1;obtain⟨qV,q1,q2,kG⟩:=dr h1;rw[hg]at kG;cases kG;have hb:=W.lt hg;have pQ:=W.lt mC;have mO:∃t th,(dz h f aF cs).get b=some (.cells l r.1 t th):=by
  rw[ext_get hf,if_neg om];by_cases e:b=f
  ·rw[if_pos e];subst e;rw[hg]at hf;cases hf;exact⟨_,_,rfl⟩
  ·rw[if_neg e,hg];exact⟨_,_,rfl⟩
 obtain⟨t,th,mO⟩:=mO;by_cases e:r.1=f
 ·have wv:(dz h f aF cs).get r.1=some (.cells cr r.1 h.size r.2.2):=by
   have XI:=hf;rw[←e,mC]at XI;simp only[Option.some.injEq,ew.cells.injEq]at XI;rw[ext_get hf,if_neg om,if_pos e,XI.1,XI.2.2.2,e]
  exact dq (bu mO wv) h2 (au mO)
 ·have wv:(dz h f aF cs).get r.1=some (.cells cr r.1 r.2.1 r.2.2):=by rw[ext_get hf,if_neg om,if_neg e,mC]
  exact dq (bu mO wv) h2 (au mO)
theorem dw {S:Ft} {x:Nat} {w:Bool} (h:(x,w)∈S):x∈cQ S:=List.mem_map.2 ⟨_,h,rfl⟩
theorem ig {f:Nat} (W:Wf h) (same:∀x,x<h.size→hd h x≠f→h'.get x=h.get x) {b:Nat} {cs:List Value} (bc:hd h b≠f) (hr:h.rd b=some cs):h'.rd b=some cs:=by
 obtain⟨r,h1,h2,h3⟩:=rd_some hr;obtain⟨f1,t1,ue,hg⟩:=di h3;obtain⟨cr,mC⟩:=bw h1;obtain⟨qV,q1,q2,kG⟩:=dr h1;rw[hg]at kG;cases kG;rw[bH hg]at bc;have a1:=same b (W.lt hg) (by rw[bH hg];exact bc);have a2:=same r.1 (W.lt mC) (by rw[bH mC];exact bc);exact dq (bu (a1.trans hg) (a2.trans mC)) h2 (au (a1.trans hg))
theorem Mem.Vx (H:Mem X ρ F o c h) {S:Nat→Ft} (K:MO X ρ F o c h S) {m z l len':Nat} {w:Bool} (cG:Nat) {y y':TO} {Sq:Ft} (hl:look o m=some y) {b f t0 eg aF:Nat} {cs cs':List Value} (hS:S m=(f,w)::Sq) (hb:ρ m=some (.arr b z l)) (hg:h.get b=some (.cells cs f t0 eg))
 (hf:h.c8 b=some (f,b,aF)) (_:aF≤b) (CS:cG≤h.size) (hw9:cG=aF∨w=true):
 let h':=dz h f cG cs'
 let ρ':=bX (bX ρ m none) c (some (.arr h.size z len'))
 let F':=fun x=>F x∨(w=false∧x=h.size)
 (sO:(∀t v,VR c ρ F h t v→VR (c+1) ρ' F' h' t v)→(∀b,b<h.size→¬(hd h b=f)→h'.get b=h.get b)→(∀b cs,F b→h.rd b=some cs→h'.rd b=some cs)→h'.get h.size=some (.cells cs' f 0 0)→h'.c8 h.size=some (f,h.size,cG)→OR (c+1) ρ' F' h' X.base c ((f,w)::Sq) y')→
 Mem X ρ' F' ((c,y')::eI o m) (c+1) h'∧∀t v,VR c ρ F h t v→VR (c+1) ρ' F' h' t v:=by
 intro h' ρ' F' sO;have hm:=H.lt hl;obtain⟨c0,bC⟩:=bw hf;simp only at bC;have pQ:=H.wf.lt bC;have wz:f∈cQ (S m):=by rw[hS];exact List.mem_cons_self
 have oJ:=K.eD m _ f hl wz;have Fq:=K.AD m _ hl;have eK:∀n,n≠m→n≠c→ρ' n=ρ n:=fun n h1 h2=>by simp only[ρ'];rw[aW _ _ h2,aW _ _ h1]
 have hA:∀n l,n<c→ρ' n=some l→ρ n=some l:=fun n l hn h1=>by
  by_cases e:n=m
  ·subst e;simp only[ρ']at h1;rw[aW _ _ om,aD]at h1;cases h1
  ·rwa [eK n e om]at h1
 have hB:∀n b,ρ n=some (.cX b)→ρ' n=some (.cX b):=fun n b' hn=>by
  have:=H.names _ _ hn;by_cases e:n=m
  ·subst e;rw[hb]at hn;cases hn
  ·rwa [eK n e om]
 have oI:∀b,F b→F' b:=fun b hb=>.inl hb;have Vy:∀b,b<h.size→hd h b≠f→h'.get b=h.get b:=fun b' bJ hx=>by
  simp only[h'];rw[ext_get bC,if_neg om,if_neg];intro e;subst e;exact hx (bH bC)
 have cE:∀b cs,F b→h.rd b=some cs→h'.rd b=some cs:=fun b cs hb hr=>by
  rcases hw9 with e|e
  ·simp only[h'];rw[e];exact J5 H.wf bC hr
  ·exact ig H.wf Vy (K.apart m _ f b hl (by rw[hS,e];exact List.mem_cons_self) hb) hr
 have Bq:∀t v,VR c ρ F h t v→VR (c+1) ρ' F' h' t v:=fun t v=>VR.mono om hA hB oI cE;have ry:h'.get h.size=some (.cells cs' f 0 0):=by simp only[h'];rw[ext_get bC,if_pos rfl]
 have RH:h'.get f=some (.cells c0 f h.size cG):=by simp only[h'];rw[ext_get bC,if_neg om,if_pos rfl]
 have Jo:=H.wf.lt hg;have Y4:(h'.rd h.size)=some cs':=dq (bu ry RH) (by simp only;omega) (au ry);have same:∀b,b<h.size→¬(hd h b=f)→h'.get b=h.get b:=fun b' bJ hx=>by
  simp only[h'];rw[ext_get bC,if_neg om,if_neg];intro e;subst e;exact hx (bH bC)
 have sP:∀n y1,n≠c→look ((c,y')::eI o m) n=some y1→n≠m∧look o n=some y1:=fun n y1 bc hy=>by
  rw[aC,if_neg (fun e=>bc e.symm),cZ]at hy;by_cases e:n=m
  ·rw[if_pos e]at hy;cases hy
  ·rw[if_neg e]at hy;exact⟨e,hy⟩
 refine H.change K (fun x=>x=f) c y' ((f,w)::Sq) (by simp only[h'];rw[qi];omega) (J4 H.wf bC) (fun x hx=>by subst hx;exact oJ.2.2)
  same cE (fun b' bJ=>RG bC bJ) oI (fun b' bJ hn=>?_) om hA hB (fun n l hn=>?_) (fun n y1 bc hy=>?_) (fun y1 hy=>?_) (sO Bq same cE ry (bu ry RH)) (by rw[←hS];exact Fq) (fun x hx=>?_) fun x b' hx bJ=>?_
 ·rcases bJ with bJ|⟨hw,rfl⟩
  ·exact absurd bJ hn
  ·refine⟨by rw[Y4];rfl,fun n y1 x bc hy hx e=>?_,fun x hx e=>?_,by rw[bH ry];exact oJ.2.2⟩
   ·rw[bH ry]at e;subst e;obtain⟨h1,h2⟩:=sP n y1 bc hy;exact h1 (K.eJ n m y1 _ _ h2 hl (dw hx) wz)
   ·rw[bH ry]at e;subst e;rw[hS]at Fq;simp only[cQ,List.map_cons,List.nodup_cons]at Fq;rcases List.mem_cons.1 hx with e|hx
    ·simp only[Prod.mk.injEq]at e;rw[hw]at e;exact absurd e.2 (by simp)
    ·exact Fq.1 (List.mem_map.2 ⟨_,hx,rfl⟩)
 ·by_cases e:n=c
  ·omega
  ·by_cases e2:n=m
   ·omega
   ·rw[eK n e2 e]at hn;have:=H.names _ _ hn;omega
 ·obtain⟨h1,h2⟩:=sP n y1 bc hy;refine⟨h2,eK n h1 bc,fun x hx e=>?_⟩;subst e;exact h1 (K.eJ n m y1 _ x h2 hl hx wz)
 ·rw[aC,if_pos rfl,Option.some.injEq]at hy;exact hy.symm
 ·rw[←hS]at hx;obtain⟨q1,q2,q3⟩:=K.eD m _ x hl hx;refine⟨q1,by simp only[h'];rw[qi];omega,q3,fun n y1 bc hy hh=>?_⟩;obtain⟨h1,h2⟩:=sP n y1 bc hy;exact h1 (K.eJ n m y1 _ x h2 hl hh hx)
 ·rw[←hS]at hx;exact K.apart m _ x b' hl hx bJ
theorem NQ {b f t0 eg t1 ue:Nat} {c0 c1:List Value} (hg:h.get b=some (.cells c0 f t0 eg)) (hf:h.get f=some (.cells c1 f t1 ue)) (cs':List Value) (x:Nat):
 ((h.setCells b cs').bm f b b).get x=if x=f then some (.cells (if f=b then cs' else c1) f b b)else if x=b then some (.cells cs' f t0 eg)else h.get x:=by
 rw[bf,bn,bn,hg];by_cases e:f=b
 ·subst e;simp
 ·simp[e,hf]
theorem Br (b f:Nat) (cs':List Value):((h.setCells b cs').bm f b b).size=h.size:=by rw[bk,b8]
theorem Fs {base b f aF t0 eg:Nat} {c0 cs':List Value} (_:h.get b=some (.cells c0 f t0 eg)) (hf:h.c8 b=some (f,b,aF)) (h1:base≤b) (h2:base≤f):
 h.wr base b cs'=some ((h.setCells b cs').bm f b b):=by
 unfold ah.wr;rw[hf];simp[bp,az.2 h1,az.2 h2]
structure Y5 (h:ah) (b f:Nat) (cs':List Value) (h':ah):Prop where
 size:h'.size=h.size
 wf:Wf h'
 self:∃t th,h'.get b=some (.cells cs' f t th)
 c8:h'.c8 b=some (f,b,b)
 same:∀x,x<h.size→hd h x≠f→h'.get x=h.get x
 cQ:∀x,hd h' x=hd h x
theorem zJ (W:Wf h) {b f aF t0 eg:Nat} {c0 cs':List Value} (hg:h.get b=some (.cells c0 f t0 eg)) (hf:h.c8 b=some (f,b,aF)):Y5 h b f cs' ((h.setCells b cs').bm f b b):=by
 obtain⟨cr,bC⟩:=bw hf;simp only at bC;have hb:=W.lt hg;have pQ:=W.lt bC;have hle:=W.le _ _ _ _ _ hg;have get:=fun x=>NQ hg bC cs' x;have RH:((h.setCells b cs').bm f b b).get f=some (.cells (if f=b then cs' else cr) f b b):=by
  rw[get,if_pos rfl]
 have mO:∃t th,((h.setCells b cs').bm f b b).get b=some (.cells cs' f t th):=by
  by_cases e:b=f
  ·subst e;exact⟨b,b,by rw[RH,if_pos rfl]⟩
  ·rw[get,if_neg e,if_pos rfl];exact⟨_,_,rfl⟩
 obtain⟨t,th,mO⟩:=mO;have zK:∀x,x≠f→x≠b→((h.setCells b cs').bm f b b).get x=h.get x:=fun x h1 h2=>by rw[get,if_neg h1,if_neg h2]
 refine⟨Br _ _ _,⟨fun x hx=>?_,fun x qV f1 t1 ue hx=>?_⟩,⟨t,th,mO⟩,bu mO RH,fun x hx bc=>?_,fun x=>?_⟩
 ·rw[Br]at hx;rw[zK x om om];exact W.high x hx
 ·by_cases e1:x=f
  ·subst e1;rw[RH]at hx;cases hx;exact Nat.le_refl _
  ·by_cases e2:x=b
   ·subst e2;rw[mO]at hx;cases hx;exact hle
   ·rw[zK x e1 e2]at hx;exact W.le _ _ _ _ _ hx
 ·refine zK x (fun e=>?_) (fun e=>?_)
  ·subst e;exact bc (bH bC)
  ·subst e;exact bc (bH hg)
 ·by_cases e1:x=f
  ·subst e1;rw[bH RH,bH bC]
  ·by_cases e2:x=b
   ·subst e2;rw[bH mO,bH hg]
   ·unfold hd;rw[zK x e1 e2]
theorem Mem.set (H:Mem X ρ F o c h) {S:Nat→Ft} (K:MO X ρ F o c h S) {m:Nat} {y y':TO} {S0:Ft} (hl:look o m=some y) {f:Nat} (hf:(f,true)∈S m) (qj:∀p∈S0,p∈S m) (Bm:(cQ S0).Nodup) (eY:h'.size=h.size) (EU:Wf h')
 (same:∀x,x<h.size→hd h x≠f→h'.get x=h.get x) (RI:∀x,hd h' x=hd h x)
 (sO:(∀t v,VR c ρ F h t v→VR c ρ F h' t v)→(∀b cs,F b→h.rd b=some cs→h'.rd b=some cs)→OR c ρ F h' X.base m S0 y'):
 Mem X ρ F (dZ o m y') c h'∧∀t v,VR c ρ F h t v→VR c ρ F h' t v:=by
 have oJ:=K.eD m y f hl (dw hf);have cE:∀b cs,F b→h.rd b=some cs→h'.rd b=some cs:=fun b cs hb hr=>ig H.wf same (K.apart m y f b hl hf hb) hr;have Bq:∀t v,VR c ρ F h t v→VR c ρ F h' t v:=fun t v=>VR.mono (Nat.le_refl _) (fun _ _ _ hx=>hx) (fun _ _ hx=>hx) (fun _ hb=>hb) cE;have M8:∀x∈cQ S0,x∈cQ (S m):=fun x hx=>by
  obtain⟨p,hp,rfl⟩:=List.mem_map.1 hx;exact List.mem_map.2 ⟨p,qj p hp,rfl⟩
 have Qg:∀n y1,n≠m→look (dZ o m y') n=some y1→look o n=some y1:=fun n y1 bc hy=>by rwa [dF,if_neg bc]at hy
 refine H.change K (fun x=>x=f) m y' S0 om EU (fun x hx=>by subst hx;exact oJ.2.2) (fun b hb hx=>same b hb hx) cE (fun b _=>RI b) (fun _ hb=>hb) (fun _ hb hn=>absurd hb hn) (Nat.le_refl _) (fun _ _ _ hx=>hx) (fun _ _ hx=>hx) H.names
  (fun n y1 bc hy=>?_) (fun y1 hy=>?_) (sO Bq cE) Bm (fun x hx=>?_) fun x b hx hb=>K.apart m y x b hl (qj _ hx) hb
 ·refine⟨Qg n y1 bc hy,rfl,fun x hx e=>?_⟩;subst e;exact bc (K.eJ n m y1 y x (Qg n y1 bc hy) hl hx (dw hf))
 ·rw[dF,if_pos rfl,hl]at hy;simp at hy;exact hy.symm
 ·obtain⟨q1,q2,q3⟩:=K.eD m y x hl (M8 x hx);exact⟨q1,om,q3,fun n y1 bc hy hh=>bc (K.eJ n m y1 y x (Qg n y1 bc hy) hl hh (M8 x hx))⟩
def mz (ρ:Gh) (c:Nat) (ls:List Loc):Gh:=fun n=>if n<c then ρ n else ls[n - c]?
theorem eL (ρ:Gh) {c n:Nat} (ls:List Loc) (h:n<c):mz ρ c ls n=ρ n:=if_pos h
theorem qk (ρ:Gh) (c i:Nat) (ls:List Loc):mz ρ c ls (c+i)=ls[i]? :=by unfold mz;rw[if_neg om];congr 1;omega
theorem rB {base:Nat} {Ss:List Ft} {new:List (Nat×TO)} {ls:List Loc}:∀{k:Nat},Bl F h base k Ss new ls→∀n,look new n=if n<k then none else(new[n - k]?).map (·.2):=by
 intro k N;have key:∀(new:List (Nat×TO)) (k:Nat),(∀(i:Nat) p,new[i]? =some p→p.1=k+i)→∀n,look new n=if n<k then none else(new[n - k]?).map (·.2):=by
  intro new
  induction new with
  |nil=>intro k _ n;simp[look]
  |cons p l ih=>
   intro k hk n;have h0:=hk 0 p rfl;rw[aC];have ih':=ih (k+1) (fun i q hq=>by have:=hk (i+1) q (by simpa using hq);omega) n;by_cases e:p.1=n
   ·rw[if_pos e,if_neg om];have:n - k=0:=by omega
    rw[this];rfl
   ·rw[if_neg e,ih'];by_cases e1:n<k
    ·rw[if_pos om,if_pos e1]
    ·rw[if_neg om,if_neg e1];have:n - k=(n - (k+1))+1:=by omega
     rw[this,List.getElem?_cons_succ]
 exact key new k fun i p hp=>(N.nth i p hp).1
theorem Mem.opens (H:Mem X ρ F o c h) {S:Nat→Ft} (K:MO X ρ F o c h S) {m0:Nat} {y0 y1:TO} {S0:Ft} {Ss:List Ft} {new:List (Nat×TO)} {ls:List Loc} (hl:look o m0=some y0) (N:Bl F h X.base c Ss new ls) (hp:(S m0).Perm (S0++Ss.flatten))
 (sO:(∀t v,VR c ρ F h t v→VR (c+new.length) (mz ρ c ls) F h t v)→OR (c+new.length) (mz ρ c ls) F h X.base m0 S0 y1):
 Mem X (mz ρ c ls) F (new++dZ o m0 y1) (c+new.length) h∧∀t v,VR c ρ F h t v→VR (c+new.length) (mz ρ c ls) F h t v:=by
 have hA:∀n l,n<c→mz ρ c ls n=some l→ρ n=some l:=fun n l hn h1=>by rwa [eL _ _ hn]at h1
 have hB:∀n b,ρ n=some (.cX b)→mz ρ c ls n=some (.cX b):=fun n b h1=>by rw[eL _ _ (H.names _ _ h1)];exact h1
 have hm:∀t v,VR c ρ F h t v→VR (c+new.length) (mz ρ c ls) F h t v:=fun t v=>VR.mono om hA hB (fun _ h=>h) (fun _ _ _ h=>h);have C6:=H.lt hl
 let S':Nat→Ft:=fun n=>if n<c then(if n=m0 then S0 else S n)else(Ss[n - c]?).getD []
 have s0:S' m0=S0:=(if_pos C6).trans (if_pos rfl);have s1:∀n,n<c→n≠m0→S' n=S n:=fun n h1 h2=>(if_pos h1).trans (if_neg h2);have s2:∀i:Nat,S' (c+i)=(Ss[i]?).getD []:=fun i=>(if_neg om).trans (by rw[Nat.add_sub_cancel_left]);have XJ:(cQ (S m0)).Perm (cQ S0++cQ Ss.flatten):=by rw[←nQ];exact hp.map _
 have Bm:(cQ S0++cQ Ss.flatten).Nodup:=XJ.nodup_iff.1 (K.AD m0 _ hl);have inS:∀(i:Nat) Q,Ss[i]? =some Q→∀p∈Q,p∈S m0:=fun i Q hQ p hpQ=>hp.mem_iff.2 (List.mem_append_right _ (List.mem_flatten.2 ⟨Q,List.mem_of_getElem? hQ,hpQ⟩))
 -- where an object comes from
 have jJ:∀n y,look (new++dZ o m0 y1) n=some y→(n=m0∧y=y1)∨(n<c∧n≠m0∧look o n=some y)∨∃(i:Nat) (Q:Ft) (l:Loc),n=c+i∧Ss[i]? =some Q∧ls[i]? =some l∧CR F h X.base Q (.o y l):=by
  intro n y hn;rw[iA,rB N]at hn;by_cases hc:n<c
  ·rw[if_pos hc]at hn;simp only at hn;rw[dF]at hn;by_cases e:n=m0
   ·rw[if_pos e,hl]at hn;simp at hn;exact .inl ⟨e,hn.symm⟩
   ·rw[if_neg e]at hn;exact .inr (.inl ⟨hc,e,hn⟩)
  ·rw[if_neg hc]at hn;cases hq:new[n - c]? with
   |none=>
    rw[hq]at hn;simp only[Option.map_none]at hn;rw[dF,if_neg om]at hn;exact absurd (H.lt hn) hc
   |some p=>
    rw[hq]at hn;simp only[Option.map_some,Option.some.injEq]at hn;subst hn;obtain⟨_,Q,l,h1,h2,h3⟩:=N.nth _ _ hq;exact .inr (.inr ⟨n - c,Q,l,om,h1,h2,h3⟩)
 have Qh:∀n y,look (new++dZ o m0 y1) n=some y→∀p∈S' n,(n<c∧n≠m0∧p∈S n∧look o n=some y)∨p∈S m0:=by
  intro n y hn p Ni;rcases jJ n y hn with⟨rfl,_⟩|⟨h1,h2,h3⟩|⟨i,Q,l,rfl,h1,_,_⟩
  ·rw[s0]at Ni;exact .inr (hp.mem_iff.2 (List.mem_append_left _ Ni))
  ·rw[s1 n h1 h2]at Ni;exact .inl ⟨h1,h2,Ni,h3⟩
  ·rw[s2,h1]at Ni;exact .inr (inS i Q h1 p Ni)
 refine⟨⟨⟨S',fun n y hn=>?_,fun n y hn=>?_,fun n1 n2 z1 z2 x h1 h2 k1 k2=>?_,fun n y x hn hx=>?_,fun n y x b hn hx hb=>?_⟩,fun n l hn=>?_,H.frozen,H.F0,H.wf,H.my,H.lq,H.zH,?_,fun k l hk hl=>?_,fun k b hk hb=>?_⟩,hm⟩
 ·rcases jJ n y hn with⟨rfl,rfl⟩|⟨h1,h2,h3⟩|⟨i,Q,l,rfl,h1,h2,h3⟩
  ·rw[s0];exact sO hm
  ·rw[s1 n h1 h2];exact(K.bN n y h3).bd (T:=fun _=>False) H.wf (fun _ _ _=>rfl) (fun _ _ hf=>hf.elim) (fun _ h=>h) (fun _ _ _ h=>h) hm (eL _ _ h1)
  ·rw[s2,h1];exact OR.qg h3 (by rw[qk];exact h2)
 ·rcases jJ n y hn with⟨rfl,rfl⟩|⟨h1,h2,h3⟩|⟨i,Q,l,rfl,h1,h2,h3⟩
  ·rw[s0];exact(List.nodup_append.1 Bm).1
  ·rw[s1 n h1 h2];exact K.AD n y h3
  ·rw[s2,h1];have:(Q.map (·.1)).Sublist (cQ Ss.flatten):=(List.sublist_flatten_of_mem (List.mem_of_getElem? h1)).map _;exact this.nodup (List.nodup_append.1 Bm).2.1
 ·have idx:∀(i j:Nat) (Q R:Ft) (x:Nat),Ss[i]? =some Q→Ss[j]? =some R→x∈cQ Q→x∈cQ R→i=j:=by
   have pQ:(Ss.map cQ).flatten.Nodup:=by
    have:=(List.nodup_append.1 Bm).2.1;unfold cQ at this;rw[List.map_flatten]at this;exact this
   intro i j Q R x hi hj XK XL;have pw:=List.pairwise_iff_getElem.1 (List.pairwise_flatten.1 pQ).2;have key:∀(i j:Nat) (Q R:Ft),Ss[i]? =some Q→Ss[j]? =some R→x∈cQ Q→x∈cQ R→i<j→False:=fun i j Q R hi hj XK XL bj=>by
    have li:=(List.getElem?_eq_some_iff.1 hi);have lj:=(List.getElem?_eq_some_iff.1 hj);refine pw i j (by simpa using li.1) (by simpa using lj.1) bj x ?_ x ?_ rfl
    ·rw[List.getElem_map,li.2];exact XK
    ·rw[List.getElem_map,lj.2];exact XL
   rcases Nat.lt_trichotomy i j with bj|heq|bj
   ·exact(key i j Q R hi hj XK XL bj).elim
   ·exact heq
   ·exact(key j i R Q hj hi XL XK bj).elim
  have dis:∀x,x∈cQ S0→∀(i:Nat) (Q:Ft),Ss[i]? =some Q→x∈cQ Q→False:=fun x h1 i Q h2 h3=>by
   refine(List.nodup_append.1 Bm).2.2 x h1 x ?_ rfl;obtain⟨p,Vz,rfl⟩:=List.mem_map.1 h3;exact List.mem_map.2 ⟨p,List.mem_flatten.2 ⟨Q,List.mem_of_getElem? h2,Vz⟩,rfl⟩
  have inm:∀(x i:Nat) (Q:Ft),Ss[i]? =some Q→x∈cQ Q→x∈cQ (S m0):=fun x i Q h1 h2=>by
   obtain⟨p,Vz,rfl⟩:=List.mem_map.1 h2;exact List.mem_map.2 ⟨p,inS i Q h1 p Vz,rfl⟩
  have in0:∀x,x∈cQ S0→x∈cQ (S m0):=fun x hx=>XJ.mem_iff.2 (List.mem_append_left _ hx);rcases jJ n1 z1 h1 with⟨rfl,_⟩|⟨a1,a2,a3⟩|⟨i,Q,l,rfl,a1,_,_⟩<;>rcases jJ n2 z2 h2 with⟨rfl,_⟩|⟨b1,b2,b3⟩|⟨j,R,l',rfl,b1,_,_⟩
  ·rfl
  ·rw[s0]at k1;rw[s1 _ b1 b2]at k2;exact absurd (K.eJ _ _ _ _ x hl b3 (in0 x k1) k2).symm b2
  ·rw[s0]at k1;rw[s2,b1]at k2;exact(dis x k1 j R b1 k2).elim
  ·rw[s1 _ a1 a2]at k1;rw[s0]at k2;exact absurd (K.eJ _ _ _ _ x a3 hl k1 (in0 x k2)) a2
  ·rw[s1 _ a1 a2]at k1;rw[s1 _ b1 b2]at k2;exact K.eJ _ _ _ _ x a3 b3 k1 k2
  ·rw[s1 _ a1 a2]at k1;rw[s2,b1]at k2;exact absurd (K.eJ _ _ _ _ x a3 hl k1 (inm x j R b1 k2)) a2
  ·rw[s2,a1]at k1;rw[s0]at k2;exact(dis x k2 i Q a1 k1).elim
  ·rw[s2,a1]at k1;rw[s1 _ b1 b2]at k2;exact absurd (K.eJ _ _ _ _ x hl b3 (inm x i Q a1 k1) k2).symm b2
  ·rw[s2,a1]at k1;rw[s2,b1]at k2;rw[idx i j Q R x a1 b1 k1 k2]
 ·obtain⟨p,Vz,rfl⟩:=List.mem_map.1 hx;rcases Qh n y hn p Vz with⟨_,_,h3,h4⟩|h3
  ·exact K.eD n y _ h4 (dw h3)
  ·exact K.eD m0 _ _ hl (dw h3)
 ·rcases Qh n y hn _ hx with⟨_,_,h3,h4⟩|h3
  ·exact K.apart n y x b h4 h3 hb
  ·exact K.apart m0 _ x b hl h3 hb
 ·by_cases hc:n<c
  ·omega
  ·unfold mz at hn;rw[if_neg hc]at hn;have:=(List.getElem?_eq_some_iff.1 hn).1;have:=N.l2;omega
 ·have:=H.wO.1;omega
 ·exact H.wO.2.1 k l hk (hA k l (Nat.lt_of_lt_of_le hk H.wO.1) hl)
 ·exact hB k b (H.wO.2.2 k b hk hb)
theorem Mem.share (H:Mem X ρ F o c h) (m:Nat):∃F',Mem X ρ F' (g4 o m) c h∧(∀t v,VR c ρ F h t v→VR c ρ F' h t v)∧(∀b,F b→F' b)∧
 ∀z w es v,look o m=some (.arr z w es)→VR c ρ F h (.tk m) v→VR c ρ F' h (.sl z es false) v:=by
 unfold g4;split
 ·rename_i z w es hl;obtain⟨S,K⟩:=H.ex;have hO:=K.bN m _ hl;have Qg:∀n y,n≠m→look (dZ o m (.arr z false es)) n=some y→look o n=some y:=fun n y bc hy=>by rwa [dF,if_neg bc]at hy
  have VA:∀y',look (dZ o m (.arr z false es)) m=some y'→y'= .arr z false es:=fun y' hy=>by rw[dF,if_pos rfl,hl]at hy;simp at hy;exact hy.symm
  cases hS:S m with
  |nil=>
   rw[hS]at hO;cases hO with
   |nil hb hz=>
    obtain⟨M,hm⟩:=H.change K (F':=F) (ρ':=ρ) (c':=c) (h':=h) (o':=dZ o m (.arr z false [])) (fun _=>False) m (.arr z false []) [] (Nat.le_refl _) H.wf (fun _ hf=>hf.elim) (fun _ _ _=>rfl) (fun _ _ _ h=>h) (fun _ _=>rfl) (fun _ h=>h) (fun _ h hn=>absurd h hn) (Nat.le_refl _) (fun _ _ _ h=>h) (fun _ _ h=>h) H.names
     (fun n y bc hy=>⟨Qg n y bc hy,rfl,fun _ _ hf=>hf.elim⟩) VA (.nil hb hz) (by simp[cQ]) (by simp[cQ]) (by simp)
    refine⟨F,M,hm,fun _ h=>h,fun z' w' bD v ql hv=>?_⟩;rw[hl]at ql;cases ql;cases hv with
    |tk hn nR ha h0=>
     rcases h0 _ hb with rfl |⟨b,o',cs,q1,q2,q3,q4,rfl⟩
     ·exact .nil rfl
     ·exact .sl q1 q2 q3 rfl (Nat.le_refl _) (fun h=>by cases h) (by simpa using q4) (by simp) (by simp) fun i j e t v h1=>by simp at h1
  |cons p Sq=>
   have Y6:=fun x hx=>K.eD m _ x hl hx;have uD:∀(n:Nat) (y:TO) (x:Nat),n≠m→look o n=some y→x∈cQ (S n)→x∈cQ (S m)→False:=fun n y x bc hn hx Vu=>bc (K.eJ n m y _ x hn hl hx Vu);rw[hS]at hO Y6 uD;cases hO with
   |arr hb hg hf ht dy hz hlen he fS hc hF=>
    rename_i b f t0 eg aF cs;have ft:h.rd b=some cs:=dq hf ht (au hg);have RJ:∀t v,VR c ρ F h t v→VR c ρ (fun x=>F x∨x=b) h t v:=fun t v=>VR.mono (Nat.le_refl _) (fun _ _ _ h=>h) (fun _ _ h=>h) (fun _ h=>.inl h) (fun _ _ _ h=>h);have MM:Mem X ρ (fun x=>F x∨x=b) (dZ o m (.arr z false es)) c h∧∀t v,VR c ρ F h t v→VR c ρ (fun x=>F x∨x=b) h t v:=by
     refine H.change K (F':=fun x=>F x∨x=b) (ρ':=ρ) (c':=c) (h':=h) (o':=dZ o m (.arr z false es)) (fun _=>False) m (.arr z false es) [(f,false)] (Nat.le_refl _) H.wf (fun _ hf=>hf.elim) (fun _ _ _=>rfl) (fun _ _ _ h=>h) (fun _ _=>rfl) (fun _ h=>.inl h)
      (fun b' bJ hn=>?_) (Nat.le_refl _) (fun _ _ _ h=>h) (fun _ _ h=>h) H.names
      (fun n y bc hy=>⟨Qg n y bc hy,rfl,fun _ _ hf=>hf.elim⟩) VA (.arr hb hg hf ht dy hz hlen he fS (fun i j e t v q1 q2 q3=>RJ _ _ (hc i j e t v q1 q2 q3)) fun _=>.inr rfl) (by simp[cQ]) (fun x hx=>?_) (fun x b' hx=>by simp at hx)
     ·rcases bJ with bJ|rfl
      ·exact absurd bJ hn
      ·refine⟨by rw[ft];rfl,fun n y x bc hy hx e=>?_,by simp,?_⟩
       ·rw[bH hg]at e;subst e;exact uD n y _ bc (Qg n y bc hy) (dw hx) List.mem_cons_self
       ·rw[bH hg];exact(Y6 _ List.mem_cons_self).2.2
     ·simp only[cQ,List.map_cons,List.map_nil,List.mem_singleton]at hx;subst hx;obtain⟨q1,q2,q3⟩:=Y6 _ List.mem_cons_self;exact⟨q1,q2,q3,fun n y bc hy hh=>uD n y _ bc (Qg n y bc hy) hh List.mem_cons_self⟩
    obtain⟨M,hm⟩:=MM;refine⟨_,M,hm,fun _ h=>.inl h,fun z' w' bD v ql hv=>?_⟩;rw[hl]at ql;cases ql;cases hv with
    |tk hn nR ha h0=>
     obtain⟨cap,h1,rfl⟩:=ha _ _ _ hb;exact .sl (.inr rfl) ft hz rfl h1 (fun h=>by cases h) (by rw[Nat.zero_add];omega) he fS fun i j e t v q1 q2 q3=>hm _ _ (hc i j e t v q1 q2 (by simpa using q3))
 ·rename_i Az;exact⟨F,H,fun _ _ h=>h,fun _ h=>h,fun z w es v hl=>absurd hl (Az z w es)⟩
end
def eM (ids:List (Option Nat)) (zf:Nat→Nat) (ρ:Gh):Gh:=fun n=>match ids[n]? with
 |some (some m)=>ρ m
 |some none=>some (.nil (zf n))
 |none=>none
section
variable {X:Cx} {ρ:Gh} {F:Nat→Prop} {o:Ob} {c:Nat} {h:ah} {ids:List (Option Nat)} {zf:Nat→Nat}
theorem pk {n:Nat} {x:Option Nat} (h:ids[n]? =some x):n<ids.length:=(List.getElem?_eq_some_iff.1 h).1
def TxR (c:Nat) (ρ:Gh) (F:Nat→Prop) (h:ah) (c':Nat) (ρ':Gh):Tx→Tx→Prop
 | .v a,.v b=>∀x,VR c ρ F h a x→VR c' ρ' F h b x
 | .l a,.l b=>∀m,dh c ρ F h a m→dh c' ρ' F h b m
 |_,_=>True
theorem mE.rel (H:Mem X ρ F o c h) {a b:Tx} (L:mE ids o a b):TxR c ρ F h ids.length (eM ids zf ρ) a b:=by
 induction L with
 |s hv=>intro x hx;obtain rfl:=hv.eq;cases hx with|s hp=>exact .s hp
 |sl hz hf he=>
  intro x hx;obtain rfl:=he.eq;simp only[Bool.or_eq_true,beq_iff,Bool.not_eq_true']at hz hf;cases hx with
  |nil he=>exact .nil he
  |sl h1 h2 h3 h4 h5 h6 h7 h8 h9 hc=>
   rcases hz with rfl |rfl
   ·refine .sl h1 h2 h3 h4 h5 (fun h=>h6 ?_) h7 h8 h9 fun i j e t v q1 q2 q3=>(hc i j e t v q1 q2 q3).dm (h9 e (List.mem_of_getElem? q1) t (List.mem_of_getElem? q2));rcases hf with hf|hf
    ·rw[hf]at h;cases h
    ·exact hf
   ·omega
 |new hi=>
  intro x hx;cases hx with
  |nil he=>exact .tk (pk hi) rfl (fun b z len hx=>by simp[eM,hi]at hx) (fun z hx=>.inl rfl)
  |sl h1 h2 h3=>omega
 |tk hi=>
  intro x hx;cases hx with
  |tk hn nR ha h0=>exact .tk (pk hi) nR (fun b z len hx=>ha b z len (by simpa[eM,hi]using hx)) (fun z hx=>h0 z (by simpa[eM,hi]using hx))
 |pv hi he=>
  intro x hx;obtain rfl:=he.eq;cases hx with
  |pv hn nR ha h0=>exact .pv (pk hi) nR (fun b z len hx=>ha b z len (by simpa[eM,hi]using hx)) (fun z hx=>h0 z (by simpa[eM,hi]using hx))
 |look hl he=>
  intro x hx;obtain rfl:=he.eq;obtain⟨S,K⟩:=H.ex;cases hx with
  |tk hn nR ha h0=>
   have hO:=K.bN _ _ hl;generalize S _=Sm at hO;cases hO with
   |nil hb hz=>
    rcases h0 _ hb with rfl |⟨b,o',cs,q1,q2,q3,q4,rfl⟩
    ·exact .nil rfl
    ·exact .sl q1 q2 q3 rfl (Nat.le_refl _) (fun h=>by cases h) (by simpa using q4) (by simp) (by simp) fun i j e t v h1=>by simp at h1
   |arr hb hg hf ht dy hz hlen he fS hc hF=>
    obtain⟨cap,h1,rfl⟩:=ha _ _ _ hb
    exact .sl (hF rfl) (dq hf ht (au hg)) hz rfl h1 (fun h=>by cases h) (by rw[Nat.zero_add];omega) he fS
     fun i j e t v q1 q2 q3=>(hc i j e t v q1 q2 (by simpa using q3)).dm (fS e (List.mem_of_getElem? q1) t (List.mem_of_getElem? q2))
 |ptr hi=>intro x hx;cases hx with|ptr hb=>exact .ptr (by simpa[eM,hi]using hb)
 |ep he=>
  intro x hx;obtain rfl:=he.eq;cases hx with
  |ep h1 h2 h3 h4 hc=>exact .ep h1 h2 h3 h4 fun j t v q1 q2=>(hc j t v q1 q2).dm (h4 t (List.mem_of_getElem? q1))
 |mp hi=>intro x hx;cases hx with|mp hb=>exact .mp (by simpa[eM,hi]using hb)
 |bg hi he=>intro x hx;obtain rfl:=he.eq;cases hx with|bg hb=>exact .bg (by simpa[eM,hi]using hb)
 |agg _ ih=>intro x hx;obtain⟨a',rfl,h1⟩:=hx.eC;exact .fx (ih _ h1)
 |dg _ ih=>intro x hx;obtain⟨a',rfl,h1⟩:=hx.qe;exact .gF (ih _ h1)
 |lr _ ih=>intro x hx;cases hx with|lr tM=>exact .lr (ih _ tM)
 |cJ _ _ yW yX=>
  intro x hx;cases hx with
  |cJ hs ha ht hk=>
   have q1:=yW _ ⟨by rw[Array.length_toList];exact hs,fun i t v q1 q2=>ha i t v q1 (by simpa using q2)⟩;have q2:=yX _ ⟨by rw[Array.length_toList];exact ht,fun i t v q1 q2=>hk i t v q1 (by simpa using q2)⟩;exact .cJ (by have:=q1.1;rwa [Array.length_toList]at this) (fun i t v r1 r2=>q1.2 i t v r1 (by simpa using r2)) (by have:=q2.1;rwa [Array.length_toList]at this) (fun i t v r1 r2=>q2.2 i t v r1 (by simpa using r2))
 |j=>intro x _;exact .j _
 |nil=>intro m hm;rw[hm.bz];exact .nil
 |cons _ _ yW yX=>intro m hm;obtain⟨v,m',rfl,h1,h2⟩:=hm.aH;exact .cons (yW _ h1) (yX _ h2)
theorem nS (H:Mem X ρ F o c h) (v v':TV) (x:Value) (L:Vo ids o v v') (hv:VR c ρ F h v x):VR ids.length (eM ids zf ρ) F h v' x:=mE.rel H L x hv
theorem Bs (H:Mem X ρ F o c h) (l l':List TV) (m:List Value) (L:Vp ids o l l') (hv:dh c ρ F h l m):dh ids.length (eM ids zf ρ) F h l' m:=mE.rel H L m hv
theorem eo {z:Nat}:∀{es:List (List TV)} {i:Nat} {e:List TV},(∀e∈es,e.length=z)→es[i]? =some e→(es.flatten.drop (i*z)).take z=e∧(i+1)*z≤es.flatten.length
 |[],i,e,_,h=>by simp at h
 |a::l,0,e,hz,h=>by
  simp at h;subst h;have:=hz a List.mem_cons_self;simp[this]
 |a::l,i+1,e,hz,h=>by
  have ha:=hz a List.mem_cons_self;obtain⟨h1,h2⟩:=eo (es:=l) (i:=i) (fun e he=>hz e (List.mem_cons_of_mem _ he)) (by simpa using h);have e1:(i+1)*z=a.length+i*z:=by rw[ha,Nat.add_mul];omega
  refine⟨?_,?_⟩
  ·rw[List.flatten_cons,e1,List.drop_append,List.drop_eq_nil_of_le om];simpa using h1
  ·rw[List.flatten_cons,List.length_append];have e2:(i+1+1)*z=a.length+(i+1)*z:=by rw[ha,Nat.add_mul (i+1)];omega
   omega
theorem iB {z:Nat}:∀{es:List (List TV)} {i:Nat} {e:List TV},(∀e∈es,e.length=z)→i<es.length→(es.set i e).flatten=es.flatten.take (i*z)++(e++(es.flatten.drop (i*z)).drop z)
 |[],i,e,_,h=>by simp at h
 |a::l,0,e,hz,h=>by
  have:=hz a List.mem_cons_self;subst this;simp
 |a::l,i+1,e,hz,h=>by
  have ha:=hz a List.mem_cons_self;have ih:=iB (es:=l) (i:=i) (e:=e) (fun e he=>hz e (List.mem_cons_of_mem _ he)) (by simpa using h);have e1:(i+1)*z=a.length+i*z:=by rw[ha,Nat.add_mul];omega
  rw[List.set_cons_succ,List.flatten_cons,List.flatten_cons,ih,e1,List.take_length_add_append,List.drop_length_add_append,List.append_assoc]
theorem cp.VB {base:Nat} {S V:Ft} {l l2:List TV} {m:List Value} (H:cp c ρ F h base S l m) (p n:Nat) (hf:∀S2,cp c ρ F h base S2 ((l.drop p).take n) ((m.drop p).take n)→∃S3,cp c ρ F h base S3 l2 ((m.drop p).take n)∧S3.Perm (S2++V)):
 ∃S',cp c ρ F h base S' (l.take p++(l2++(l.drop p).drop n)) m∧S'.Perm (S++V):=by
 obtain⟨S1,S2,S3,rfl,h1,h2,h3⟩:=H.part p n;obtain⟨S4,h4,h5⟩:=hf S2 h2;refine⟨S1++(S4++S3),?_,?_⟩
 ·have:=h1.join (h4.join h3)
  rwa [List.take_append_drop,List.take_append_drop]at this
 ·refine((h5.append_right S3).append_left S1).trans ?_;rw[List.append_assoc,List.append_assoc,List.append_assoc];exact(((List.perm_append_comm (l₁:=V) (l₂:=S3)).append_left S2)).append_left S1
theorem cp.Dy {base:Nat} {S:Ft} {l:List TV} {m:List Value} (H:cp c ρ F h base S l m):(∀t∈l,kM t=true)→CR F h base S (.cs l m):=by
 induction H with
 |nil=>intro _;exact .nil
 |vr hv _ ih=>
  rename_i t v l m _;intro hc;have h1:=hc t List.mem_cons_self;have h2:=ih fun t ht=>hc t (List.mem_cons_of_mem _ ht);have hf:M.fz t=true:=by
   unfold kM at h1;split at h1
   ·cases hv
   ·exact h1
  exact .cons (S:=[]) (.fz hf (hv.dm hf)) h2
 |cl hv _ ih=>intro hc;exact .cons hv (ih fun t ht=>hc t (List.mem_cons_of_mem _ ht))
theorem gG.Dy {base kd:Nat} {S:Ft} {l:List (Value×TV)} {m:List MapEntry} (H:gG c ρ F h base kd S l m):(∀e∈l,∀t∈ax e.2,kM t=true)→CR F h base S (.es kd l m):=by
 induction H with
 |nil=>intro _;exact .G0
 |cons hk gB ha hv _ ih=>intro hc;exact .xy hk gB ha (hv.Dy (hc _ List.mem_cons_self)) (ih fun e he=>hc e (List.mem_cons_of_mem _ he))
theorem cp.conv {base c':Nat} {ρ':Gh} {S:Ft} {l:List TV} {m:List Value} (H:cp c ρ F h base S l m) (hc:∀t∈l,kM t=true):cp c' ρ' F h base S l m:=cp.qg (H.Dy hc) _ _ rfl
theorem gG.conv {base kd c':Nat} {ρ':Gh} {S:Ft} {l:List (Value×TV)} {m:List MapEntry} (H:gG c ρ F h base kd S l m) (hc:∀e∈l,∀t∈ax e.2,kM t=true):gG c' ρ' F h base kd S l m:=gG.qg (H.Dy hc) _ _ _ rfl
theorem gG.put {base kd c':Nat} {ρ':Gh} {k:Value} {v v1:TV} {V:Ft} (ha:cP v=cP v1) (hf:∀S2 (x:Value),cp c ρ F h base S2 (ax v) x.cells.toList→∃S3,cp c' ρ' F h base S3 (ax v1) x.cells.toList∧S3.Perm (S2++V)):
 ∀{es:List (Value×TV)} {S:Ft} {ev:List MapEntry},(∀e∈es,∀t∈ax e.2,kM t=true)→gG c ρ F h base kd S (dc es k v) ev→∃S',gG c' ρ' F h base kd S' (dc es k v1) ev∧S'.Perm (S++V):=by
 have one:∀{l:List (Value×TV)} {S:Ft} {ev:List MapEntry},(∀e∈l,∀t∈ax e.2,kM t=true)→gG c ρ F h base kd S ((k,v)::l) ev→∃S',gG c' ρ' F h base kd S' ((k,v1)::l) ev∧S'.Perm (S++V):=by
  intro l S ev bV H;cases H with
  |cons hk gB uh hv hl=>
   obtain⟨S3,h1,h2⟩:=hf _ _ hv;refine⟨_,.cons hk gB (ha.symm.trans uh) h1 (hl.conv bV),?_⟩;refine(h2.append_right _).trans ?_;rw[List.append_assoc,List.append_assoc];exact List.perm_append_comm.append_left _
 intro es
 induction es with
 |nil=>intro S ev _ H;exact one (by simp) H
 |cons e es ih=>
  intro S ev bV H;unfold dc at H ⊢;have VD:=fun e' AG=>bV e' (List.mem_cons_of_mem _ AG);cases hq:oG k e.1 with
  |true=>rw[hq]at H;exact one VD H
  |false=>
   rw[hq]at H;cases H with
   |cons hk gB uh hv hl=>
    obtain⟨S',h1,h2⟩:=ih VD hl;refine⟨_,.cons hk gB uh (hv.conv (bV _ List.mem_cons_self)) h1,?_⟩;rw[List.append_assoc];exact h2.append_left _
theorem uQ {k:Value} {v:TV}:∀{es:List (Value×TV)} {e:Value×TV},e∈dc es k v→e=(k,v)∨e∈es
 |[],e,h=>by simp[dc]at h;exact .inl h
 |a::l,e,h=>by
  unfold dc at h;split at h
  ·rcases List.mem_cons.1 h with rfl |h
   ·exact .inl rfl
   ·exact .inr (List.mem_cons_of_mem _ h)
  ·rcases List.mem_cons.1 h with rfl |h
   ·exact .inr List.mem_cons_self
   ·rcases uQ h with h|h
    ·exact .inl h
    ·exact .inr (List.mem_cons_of_mem _ h)
def Y7 (X:Cx) (ρ:Gh) (F:Nat→Prop) (_:Ob) (c:Nat) (h:ah) (S:Nat→Ft) (U:List Nat):Li→Prop
 | .c t y=>∀S0 v,cp c ρ F h X.base S0 [t] [v]→∃S1,CR F h X.base S1 (.c (.own y) v)∧S1.Perm (S0++U.flatMap S)
 | .k l m=>∀S0 vs,cp c ρ F h X.base S0 l vs→∃S1,CR F h X.base S1 (.cs m vs)∧S1.Perm (S0++U.flatMap S)
 | .b q y=>∀yo n S0 l,q=some yo→OR c ρ F h X.base n S0 yo→ρ n=some l→∃S1,CR F h X.base S1 (.o y l)∧S1.Perm (S0++U.flatMap S)
 | .q op kA=>∀es z cs S0,(∀e∈es,e.length=z)→(∀e∈es,∀t∈e,kM t=true)→(∀p∈op,p.1<es.length∧p.2.length=z)→cp c ρ F h X.base S0 (cd es op).flatten cs→
  ∃S1,cp c ρ F h X.base S1 (cd es kA).flatten cs∧S1.Perm (S0++U.flatMap S)∧(∀e∈cd es kA,e.length=z∧∀t∈e,kM t=true)∧(cd es kA).length=es.length
 | .m op kA=>∀es kd ev S0,(∀e∈es,∀t∈ax e.2,kM t=true)→gG c ρ F h X.base kd S0 (GV es op) ev→∃S1,gG c ρ F h X.base kd S1 (GV es kA) ev∧S1.Perm (S0++U.flatMap S)∧∀e∈GV es kA,∀t∈ax e.2,kM t=true
theorem cp.Dz {base:Nat} {S0:Ft} {t:TV} {v:Value} (H:cp c ρ F h base S0 [t] [v]) (hp:dM t=true):S0=[]∧VR c ρ F h t v:=by
 obtain⟨h1,h2⟩:=H.Uk (fun t v hv hf=>hv.dm hf) (by simpa using hp);exact⟨h2,h1.head⟩
theorem G5 (y:TO) {m:Nat} {l:Loc} {v:Value} (hv:VR c ρ F h (Bd y m) v) (hl:ρ m=some l):VR 1 (fun _=>some l) F h (Bd y 0) v:=by
 cases y with
 |cells cs=>cases hv with|ptr hb=>exact .ptr (hl.symm.trans hb)
 |map kd es=>cases hv with|mp hb=>exact .mp (hl.symm.trans hb)
 |dY kd es op=>cases hv with|mp hb=>exact .mp (hl.symm.trans hb)
 |arr z w es=>cases hv with|tk hn h1 ha h0=>exact .tk om h1 (fun b z len hx=>ha b z len (hl.trans hx)) (fun z hx=>h0 z (hl.trans hx))
 |bZ z es op=>cases hv with|tk hn h1 ha h0=>exact .tk om h1 (fun b z len hx=>ha b z len (hl.trans hx)) (fun z hx=>h0 z (hl.trans hx))
 |fM ks=>cases hv with|bg hb=>exact .bg (hl.symm.trans hb)
theorem OR.loc {base n:Nat} {S:Ft} {y:TO} (H:OR c ρ F h base n S y):∃l,ρ n=some l:=by cases H<;>exact⟨_,by assumption⟩
theorem ie.DA {U:List Nat} {i:Li} (L:ie o U i):∀l m,i= .k l m→l.length=m.length∧∀t∈m,kM t=true:=by
 induction L with
 |Vq=>rintro l m e;cases e;exact⟨rfl,by simp⟩
 |Vr _ _ _ ih=>
  rintro l m e;cases e;obtain⟨h1,h2⟩:=ih _ _ rfl;refine⟨by simp[h1],fun t ht=>?_⟩;rcases List.mem_cons.1 ht with rfl |ht
  ·rfl
  ·exact h2 t ht
 |kfz _ hf _ ih=>
  rintro l m e;cases e;obtain⟨h1,h2⟩:=ih _ _ rfl;refine⟨by simp[h1],fun t ht=>?_⟩;rcases List.mem_cons.1 ht with rfl |ht
  ·unfold kM;split<;>first|rfl |exact hf
  ·exact h2 t ht
 |_=>rintro l m e;cases e
theorem CR.Y8 {base:Nat}:∀{l:List TV} {m:List Value},dh 0 rA F h l m→(∀t∈l,M.fz t=true)→CR F h base [] (.cs l m)
 |[],m,H,_=>by rw[H.bz];exact .nil
 |t::l,m,H,hf=>by
  obtain⟨v,m',rfl,h1,h2⟩:=H.aH;exact .cons (S:=[]) (.fz (hf t List.mem_cons_self) h1) (CR.Y8 h2 fun t ht=>hf t (List.mem_cons_of_mem _ ht))
theorem G6 {v:TV} {x:Value} (hf:Bc v=true) (hv:VR c ρ F h v x):cP v=eR x∧(∀t∈ax v,fz t=true)∧dh 0 rA F h (ax v) x.cells.toList:=by
 have h0:=hv.tL (c':=0) (ρ':=rA) hf;have one:(∀cs,v≠ .agg cs)→cP v=eR x∧(∀t∈ax v,fz t=true)∧dh 0 rA F h (ax v) x.cells.toList:=by
  intro CV;have e1:ax v=[v]:=by cases v<;>first|rfl |exact absurd rfl (CV _)
  have e2:fz v=true:=by cases v<;>first|exact hf|exact absurd rfl (CV _)
  have e3:cP v=false:=by cases v<;>first|rfl |exact absurd rfl (CV _)
  have hx:∀a,x≠ .agg a:=by
   rintro a rfl;cases h0 with
   |j=>simp[fz]at e2
   |s hp=>simp[ar]at hp
   |tk _ h1=>simp[GZ]at h1
   |sv _ h1=>simp[GZ]at h1
   |pv _ h1=>simp[GZ]at h1
   |wp _ h1=>simp[Uj]at h1
   |agg=>exact CV _ rfl
  have e4:eR x=false:=by cases x<;>first|rfl |exact absurd rfl (hx _)
  have e5:x.cells= #[x]:=by cases x<;>first|rfl |exact absurd rfl (hx _)
  rw[e1,e3,e4,e5];exact⟨rfl,by simpa using e2,.cons h0 .nil⟩
 cases v with
 |agg cs=>
  obtain⟨a,rfl,h1⟩:=h0.eC;exact⟨rfl,fun t ht=>List.all_eq_true.1 hf t ht,h1⟩
 |_=>exact one (by intro cs e;cases e)
theorem CR.RL {base kd:Nat}:∀{es:List (Value×TV)} {ev:List MapEntry},es.length=ev.length→(∀(i:Nat) e e',es[i]? =some e→ev[i]? =some e'→e'.key=e.1∧(0<kd∧aQ e.1=kd)∧Bc e.2=true∧VR c ρ F h e.2 e'.val)→CR F h base [] (.es kd es ev)
 |[],[],_,_=>.G0
 |[],_::_,h,_=>by simp at h
 |_::_,[],h,_=>by simp at h
 |e::es,e'::ev,hl,hc=>by
  obtain⟨h1,h2,h3,h4⟩:=hc 0 e e' rfl rfl;obtain⟨k1,k2,k3⟩:=G6 h3 h4;exact .xy (S:=[]) h1 h2 k1 (CR.Y8 k3 k2) (CR.RL (by simpa using hl) fun i x x' q1 q2=>hc (i+1) x x' (by simpa using q1) (by simpa using q2))
theorem fY {z:Nat}:∀{es:List (List TV)} {cs:List Value},cs.length=es.length*z→(∀e∈es,e.length=z)→(∀(i j:Nat) e t v,es[i]? =some e→e[j]? =some t→cs[i*z+j]? =some v→VR c ρ F h t v)→dh c ρ F h es.flatten cs
 |[],cs,hl,_,_=>by
  have:cs=[]:=List.length_eq_zero_iff.1 (by simpa using hl);subst this;exact .nil
 |e::es,cs,hl,he,hc=>by
  have hz:=he e List.mem_cons_self;have e1:cs=cs.take z++cs.drop z:=(List.take_append_drop _ _).symm;rw[List.length_cons,Nat.add_mul]at hl;rw[e1,List.flatten_cons];refine dh.append ⟨by simp;omega,fun j t v q1 q2=>?_⟩ (fY (z:=z) (by simp;omega) (fun e AG=>he e (List.mem_cons_of_mem _ AG)) fun i j e t v q1 q2 q3=>?_)
  ·rw[List.getElem?_take]at q2;split at q2
   ·exact hc 0 j e t v rfl q1 (by rw[←q2];congr 1;omega)
   ·cases q2
  ·rw[List.getElem?_drop]at q3;exact hc (i+1) j e t v (by simpa using q1) q2 (by rw[←q3];congr 1;rw[Nat.add_mul];omega)
theorem Zl.len {x y:List TV} (H:Zl x y):y.length=x.length:=by
 induction H with
 |nil=>rfl
 |same _ ih=>simp[ih]
 |zero _ ih=>simp[ih]
theorem Zl.fz {x y:List TV} (H:Zl x y):(∀t∈x,M.fz t=true)→∀t∈y,M.fz t=true:=by
 induction H with
 |nil=>exact fun h=>h
 |same _ ih=>
  intro h t ht;rcases List.mem_cons.1 ht with rfl |ht
  ·exact h _ List.mem_cons_self
  ·exact ih (fun t ht=>h t (List.mem_cons_of_mem _ ht)) t ht
 |zero _ ih=>
  intro h t ht;rcases List.mem_cons.1 ht with rfl |ht
  ·rfl
  ·exact ih (fun t ht=>h t (List.mem_cons_of_mem _ ht)) t ht
theorem Zl.vr {x y:List TV} (H:Zl x y):∀(j:Nat) t',y[j]? =some t'→∃t,x[j]? =some t∧∀v,VR c ρ F h t v→VR c ρ F h t' v:=by
 induction H with
 |nil=>intro j t' h;simp at h
 |same _ ih=>
  intro j t' h;cases j with
  |zero=>simp at h;subst h;exact⟨_,rfl,fun _ h=>h⟩
  |succ j=>simpa using ih j t' (by simpa using h)
 |zero _ ih=>
  intro j t' h;cases j with
  |zero=>
   simp at h;subst h;refine⟨_,rfl,fun v hv=>?_⟩;cases hv with
   |nil=>exact .nil rfl
   |sl _ _ hz=>exact absurd hz (Nat.lt_irrefl 0)
  |succ j=>simpa using ih j t' (by simpa using h)
theorem ie.rel (H:Mem X ρ F o c h) {S:Nat→Ft} (K:MO X ρ F o c h S) {U:List Nat} {i:Li} (L:ie o U i):Y7 X ρ F o c h S U i∧∀u∈U,∃y,look o u=some y:=by
 have named:∀{U:List Nat} {m:Nat} {y:TO},dM (Bd y m)=true→(Y7 X ρ F o c h S U (.b (look o m) y)∧∀u∈U,∃y,look o u=some y)→(∃y0,look o m=some y0)→Y7 X ρ F o c h S (m::U) (.c (Bd y m) y)∧∀u∈m::U,∃y,look o u=some y:=by
  rintro U m y hp ⟨yW,yX⟩ ⟨y0,hl⟩;refine⟨fun S0 v hv=>?_,fun u hu=>?_⟩
  ·obtain⟨rfl,tM⟩:=hv.Dz hp;have hO:=K.bN m y0 hl;obtain⟨l,dN⟩:=hO.loc;obtain⟨S1,h1,h2⟩:=yW y0 m _ l hl hO dN;exact⟨S1,.own h1 (G5 y tM dN),by simpa using h2⟩
  ·rcases List.mem_cons.1 hu with rfl |hu
   ·exact⟨y0,hl⟩
   ·exact yX u hu
 have rC:∀{U:List Nat} {m:Nat} {y:TO},ie o U (.b (look o m) y)→∃y0,look o m=some y0:=by
  intro U m y hL;generalize hq:look o m=q at hL;cases q with
  |none=>cases hL
  |some y0=>exact⟨y0,rfl⟩
 have p0:∀(S0:Ft),S0.Perm (S0++([]:List Nat).flatMap S):=fun S0=>by simp
 induction L with
 |same hy=>obtain rfl:=hy.eq;exact⟨fun S0 v hv=>⟨S0,by
  cases hv with
  |vr hv _=>cases hv
  |cl hv hl=>cases hl;simpa using hv,p0 S0⟩,by simp⟩
 |ptr hL ih=>exact named rfl ih (rC hL)
 |mp hL ih=>exact named (y:=.map _ _) rfl ih (rC hL)
 |mpq hL ih=>exact named (y:=.dY _ _ _) rfl ih (rC hL)
 |tk hL ih=>exact named (y:=.arr _ _ _) rfl ih (rC hL)
 |tkq hL ih=>exact named (y:=.bZ _ _ _) rfl ih (rC hL)
 |bg hl hL ih=>obtain rfl:=hl.eq;exact named (y:=.fM _) rfl ih (rC hL)
 |zC h0=>
  refine⟨fun S0 v hv=>?_,by simp⟩;obtain⟨rfl,tM⟩:=hv.Dz rfl;refine⟨[],.own (.zC (aI.1 h0)) ?_,p0 _⟩;cases tM with
  |nil=>exact .tk om rfl (fun b z len hx=>by cases hx) (fun z hx=>.inl rfl)
  |sl h1 h2 h3=>omega
 |fD h0=>
  refine⟨fun S0 v hv=>?_,by simp⟩;obtain⟨rfl,tM⟩:=hv.Dz rfl;refine⟨[],.own (.fD (aI.1 h0)) ?_,p0 _⟩;cases tM with
  |nil=>exact .tk om rfl (fun b z len hx=>by cases hx) (fun z hx=>.inl rfl)
  |sl h1 h2 h3=>omega
 |cells _ ih=>
  refine⟨fun yo n S0 l e hO dN=>?_,ih.2⟩;cases e;cases hO with
  |cells hb hg ht hc=>
   rw[hb]at dN;cases dN;obtain⟨S1,h1,h2⟩:=ih.1 _ _ hc;exact⟨_,.cells hg ht h1,h2.cons _⟩
 |map he=>
  obtain rfl:=he.eq;refine⟨fun yo n S0 l e hO dN=>?_,by simp⟩;cases e;cases hO with
  |map hb hg hl hc bU=>
   rw[hb]at dN;cases dN;exact⟨_,.map hg hl (fun i e e' q1 q2=>let⟨r1,r2,r3,r4⟩:=hc i e e' q1 q2;⟨r1,r2,r3,r4.tL r3⟩) bU,p0 _⟩
 |NN he=>
  obtain rfl:=he.eq;refine⟨fun yo n S0 l e hO dN=>?_,by simp⟩;cases e;cases hO with
  |map hb hg hl hc bU=>
   rw[hb]at dN;cases dN;exact⟨_,.dY hg (CR.RL hl hc) bU,p0 _⟩
 |arr he=>
  obtain rfl:=he.eq;refine⟨fun yo n S0 l e hO dN=>?_,by simp⟩;cases e;cases hO with
  |nil hb hz=>rw[hb]at dN;cases dN;exact⟨_,.zC hz,p0 _⟩
  |arr hb hg hf ht dy hz hl he fS hc hF=>
   rw[hb]at dN;cases dN;exact⟨_,.arr hg hf ht dy hz hl he fS (fun i j e t v q1 q2 q3=>(hc i j e t v q1 q2 q3).dm (fS e (List.mem_of_getElem? q1) t (List.mem_of_getElem? q2))) hF,p0 _⟩
 |YY ha bJ G7=>
  rename_i z w a b l0 x y;have ea:=ha.eq;have eb:=bJ.eq;refine⟨fun yo n S0 l e hO dN=>?_,by simp⟩;cases e;cases hO with
  |nil hb hz=>exact absurd ea (by simp)
  |arr hb hg hf ht dy hz hl he fS hc hF=>
   rw[hb]at dN;cases dN;have hlen:a.length=b.length:=by rw[ea,←eb];simp
   have hx:x∈a:=by rw[ea];simp
   have key:∀e'∈b,e'∈a∨e'=y:=fun e' AG=>by
    rw[←eb]at AG;rcases List.mem_append.1 AG with q|q
    ·exact .inl (by rw[ea];exact List.mem_append_left _ q)
    ·exact .inr (by simpa using q)
   have Y9:∀(i j:Nat) e' t',b[i]? =some e'→e'[j]? =some t'→∃e t,a[i]? =some e∧e[j]? =some t∧∀v,VR c ρ F h t v→VR c ρ F h t' v:=fun i j e' t' q1 q2=>by
    rw[←eb]at q1;by_cases hi:i<l0.length
    ·rw[List.getElem?_append_left hi]at q1;exact⟨e',t',by rw[ea,List.getElem?_append_left hi];exact q1,q2,fun _ h=>h⟩
    ·rw[List.getElem?_append_right om]at q1;have hi0:i - l0.length=0:=by have:=(List.getElem?_eq_some_iff.1 q1).1;simp at this;omega
     rw[hi0]at q1;simp at q1;subst q1;obtain⟨t,q3,q4⟩:=G7.vr j t' q2;exact⟨x,t,by rw[ea,List.getElem?_append_right om,hi0];rfl,q3,q4⟩
   have wQ:∀e∈b,∀t∈e,fz t=true:=fun e' AG=>by
    rcases key e' AG with q|rfl
    ·exact fS e' q
    ·exact G7.fz (fS x hx)
   rw[hlen]at hl ⊢;exact⟨_,.arr hg hf ht dy hz hl (fun e' AG=>by
    rcases key e' AG with q|rfl
    ·exact he e' q
    ·rw[G7.len];exact he x hx) wQ (fun i j e' t' v q1 q2 q3=>by
    obtain⟨e,t,r1,r2,r3⟩:=Y9 i j e' t' q1 q2;exact(r3 v (hc i j e t v r1 r2 q3)).dm (wQ e' (List.mem_of_getElem? q1) t' (List.mem_of_getElem? q2))) hF,p0 _⟩
 |NO he=>
  obtain rfl:=he.eq;refine⟨fun yo n S0 l e hO dN=>?_,by simp⟩;cases e;cases hO with
  |nil hb hz=>rw[hb]at dN;cases dN;exact⟨_,.fD hz,p0 _⟩
  |arr hb hg hf ht dy hz hl he fS hc hF=>
   rw[hb]at dN;cases dN;refine⟨_,.bZ hg hf ht dy hz hl he (CR.Y8 (fY hl he fun i j e t v q1 q2 q3=>(hc i j e t v q1 q2 q3).dm (fS e (List.mem_of_getElem? q1) t (List.mem_of_getElem? q2))) fun t ht=>?_),p0 _⟩;obtain⟨e,h1,h2⟩:=List.mem_flatten.1 ht;exact fS e h1 t h2
 |bZ hs he _ ih=>
  refine⟨fun yo n S0 l e hO dN=>?_,ih.2⟩;cases e;obtain rfl:=he.eq;cases hO with
  |fD hb hz=>rw[hb]at dN;cases dN;cases hs;exact⟨_,.fD hz,by
   obtain⟨S1,h1,h2,_⟩:=ih.1 [] 1 [] [] (by simp) (by simp) (by simp) .nil;cases h1;exact h2⟩
  |bZ hb hg hf ht dy hz hl he bV jb hc=>
   rw[hb]at dN;cases dN;obtain⟨S1,h1,h2,h3,h4⟩:=ih.1 _ _ _ _ he bV jb hc;have:=CR.bZ (S:=S1) hg hf ht dy hz (by rw[hl,h4]) (fun e he=>(h3 e he).1) (h1.Dy fun t ht=>by
    obtain⟨e,q1,q2⟩:=List.mem_flatten.1 ht;exact(h3 e q1).2 t q2)
   rw[h4]at this;exact⟨_,this,h2.cons _⟩
 |GX hs he mi _ ih=>
  refine⟨fun yo n S0 l e hO dN=>?_,ih.2⟩;cases e;obtain rfl:=he.eq;cases hO with
  |fD hb hz=>rw[hb]at dN;cases dN;cases hs;exact⟨_,.zC hz,by
   obtain⟨S1,h1,h2,_⟩:=ih.1 [] 1 [] [] (by simp) (by simp) (by simp) .nil;cases h1;exact h2⟩
  |bZ hb hg hf ht dy hz hl he bV jb hc=>
   rw[hb]at dN;cases dN;obtain⟨S1,h1,h2,h3,h4⟩:=ih.1 _ _ _ _ he bV jb hc;have:=CR.bZ (S:=S1) hg hf ht dy hz (by rw[hl,h4]) (fun e he=>(h3 e he).1) (h1.Dy fun t ht=>by
    obtain⟨e,q1,q2⟩:=List.mem_flatten.1 ht;exact(h3 e q1).2 t q2)
   rw[h4]at this;exact⟨_,this.GX mi,h2.cons _⟩
 |dY hs he _ ih=>
  refine⟨fun yo n S0 l e hO dN=>?_,ih.2⟩;cases e;obtain rfl:=he.eq;cases hO with
  |dY hb hg bV hc bU=>
   rw[hb]at dN;cases dN;obtain⟨S1,h1,h2,h3⟩:=ih.1 _ _ _ _ bV hc;exact⟨_,.dY hg (h1.Dy h3) bU,h2.cons _⟩
 |fM he=>
  obtain rfl:=he.eq;refine⟨fun yo n S0 l e hO dN=>?_,by simp⟩;cases e;cases hO with
  |fM hb hg=>rw[hb]at dN;cases dN;exact⟨_,.fM hg,p0 _⟩
 |Vq=>exact⟨fun S0 vs hv=>by cases hv;exact⟨[],.nil,by simp⟩,by simp⟩
 |Vr _ _ yW yX=>
  rename_i U1 U2 a y l m _ _;refine⟨fun S0 vs hv=>?_,fun u hu=>(List.mem_append.1 hu).elim (yW.2 u) (yX.2 u)⟩;have split:∃A B v lB,S0=A++B∧vs=v::lB∧cp c ρ F h X.base A [a] [v]∧cp c ρ F h X.base B l lB:=by
   cases hv with
   |vr h1 h2=>exact⟨[],_,_,_,rfl,rfl,.vr h1 .nil,h2⟩
   |cl h1 h2=>exact⟨_,_,_,_,rfl,rfl,by simpa using cp.cl h1 .nil,h2⟩
  obtain⟨A,B,v,lB,rfl,rfl,h1,h2⟩:=split;obtain⟨A1,k1,k2⟩:=yW.1 A v h1;obtain⟨B1,k3,k4⟩:=yX.1 B lB h2;refine⟨A1++B1,.cons k1 k3,(k2.append k4).trans ?_⟩;rw[List.flatMap_append];simp only[List.append_assoc];refine List.Perm.append_left _ ?_;rw[←List.append_assoc,←List.append_assoc];exact List.perm_append_comm.append_right _
 |kfz hv hf _ ih=>
  rename_i U1 a b l m _;refine⟨fun S0 vs Nf=>?_,ih.2⟩;have hpa:dM a=true:=by cases hv<;>first|rfl |simp[M.fz]at hf
  have split:∃v lB,vs=v::lB∧VR c ρ F h a v∧cp c ρ F h X.base S0 l lB:=by
   cases Nf with
   |vr h1 h2=>exact⟨_,_,rfl,h1,h2⟩
   |cl h1 h2=>
    cases h1 with
    |fz VE tM=>exact⟨_,_,rfl,tM.dm VE,h2⟩
    |own=>simp[dM]at hpa
  obtain⟨v,lB,rfl,h1,h2⟩:=split;obtain⟨S1,k1,k2⟩:=ih.1 S0 lB h2;exact⟨S1,.cons (S:=[]) (.fz hf ((nS (zf:=fun _=>0) H _ _ _ hv h1).dm hf)) k1,k2⟩
 |q0=>exact⟨fun es z cs S0 hz bV _ hc=>⟨S0,hc,p0 S0,fun e he=>⟨hz e he,bV e he⟩,rfl⟩,by simp⟩
 |q1 hL ih=>
  rename_i U1 i a b;refine⟨fun es z cs S0 hz bV jb hc=>?_,ih.2⟩;obtain⟨k1,k2⟩:=jb (i,a) (by simp);simp only at k1 k2;obtain⟨f1,f2⟩:=hL.DA _ _ rfl;have ib:∀e∈es.set i a,e.length=z:=fun e he=>by
   rcases List.mem_or_eq_of_mem_set he with h1|rfl
   ·exact hz e h1
   ·exact k2
  obtain⟨r1,r2⟩:=eo ib (i:=i) (e:=a) (by simp[k1]);obtain⟨S1,q1,q2⟩:=cp.VB (l2:=b) (V:=U1.flatMap S) hc (i*z) z fun S2 h2=>by
   have e:((cd es [(i,a)]).flatten.drop (i*z)).take z=a:=r1;rw[e]at h2;obtain⟨S3,h3,h4⟩:=ih.1 S2 _ h2;exact⟨S3,cp.qg h3 _ _ rfl,h4⟩
  have e2:(cd es [(i,b)]).flatten=(cd es [(i,a)]).flatten.take (i*z)++(b++((cd es [(i,a)]).flatten.drop (i*z)).drop z):=by
   have:=iB (e:=b) ib (i:=i) (by simpa using k1);rw[List.set_set]at this;exact this
  rw[←e2]at q1;refine⟨S1,q1,q2,fun e he=>?_,by simp[cd]⟩;rcases List.mem_or_eq_of_mem_set he with h1|rfl
  ·exact⟨hz e h1,bV e h1⟩
  ·exact⟨om,f2⟩
 |q2 YZ hL hR ih ihr=>
  rename_i U1 U2 i k a b a' b';refine⟨fun es z cs S0 hz bV jb hc=>?_,fun u hu=>(List.mem_append.1 hu).elim (ih.2 u) (ihr.2 u)⟩;obtain⟨k1,k2⟩:=jb (i,a) (by simp);obtain⟨l1,l2⟩:=jb (k,a') (by simp);simp only at k1 k2 l1 l2;obtain⟨f1,f2⟩:=hL.DA _ _ rfl;have hc:cp c ρ F h X.base S0 ((es.set k a').set i a).flatten cs:=hc;have ib:∀e∈(es.set k a').set i a,e.length=z:=fun e he=>by
   rcases List.mem_or_eq_of_mem_set he with h1|rfl
   ·rcases List.mem_or_eq_of_mem_set h1 with h1|rfl
    ·exact hz e h1
    ·exact l2
   ·exact k2
  obtain⟨r1,r2⟩:=eo ib (i:=i) (e:=a) (by simp[k1]);obtain⟨S1,q1,q2⟩:=cp.VB (l2:=b) (V:=U1.flatMap S) hc (i*z) z fun S2 h2=>by
   have e:(((es.set k a').set i a).flatten.drop (i*z)).take z=a:=r1;rw[e]at h2;obtain⟨S3,h3,h4⟩:=ih.1 S2 _ h2;exact⟨S3,cp.qg h3 _ _ rfl,h4⟩
  have e2:((es.set k a').set i b).flatten=((es.set k a').set i a).flatten.take (i*z)++(b++(((es.set k a').set i a).flatten.drop (i*z)).drop z):=by
   have:=iB (e:=b) ib (i:=i) (by simpa using k1);rw[List.set_set]at this;exact this
  rw[←e2,List.set_comm _ _ (fun e=>YZ e.symm)]at q1;obtain⟨S2,w1,w2,w3,w4⟩:=ihr.1 (es.set i b) z cs S1 (fun e he=>by
   rcases List.mem_or_eq_of_mem_set he with h1|rfl
   ·exact hz e h1
   ·omega) (fun e he=>by
   rcases List.mem_or_eq_of_mem_set he with h1|rfl
   ·exact bV e h1
   ·exact f2) (fun p hp=>by simp only[List.mem_singleton]at hp;subst hp;exact⟨by simpa using l1,l2⟩) q1
  have e4:cd (es.set i b) [(k,b')]=cd es [(i,b),(k,b')]:=List.set_comm _ _ YZ;rw[e4]at w1 w3 w4;refine⟨S2,w1,?_,w3,by rw[w4];simp⟩;rw[List.flatMap_append,←List.append_assoc];exact w2.trans (q2.append_right _)
 |m0=>exact⟨fun es kd ev S0 bV hc=>⟨S0,hc,p0 S0,bV⟩,by simp⟩
 |m1 ha hL ih=>
  rename_i U1 k a b;refine⟨fun es kd ev S0 bV hc=>?_,ih.2⟩;obtain⟨f1,f2⟩:=hL.DA _ _ rfl;obtain⟨S1,q1,q2⟩:=gG.put (c':=c) (ρ':=ρ) (V:=U1.flatMap S) ha (fun S2 x h2=>by
   obtain⟨S3,h3,h4⟩:=ih.1 S2 _ h2;exact⟨S3,cp.qg h3 _ _ rfl,h4⟩) bV hc
  refine⟨S1,q1,q2,fun e he=>?_⟩;rcases uQ he with rfl |h1
  ·exact f2
  ·exact bV e h1
theorem tK.rel (H:Mem X ρ F o c h) {S:Nat→Ft} (K:MO X ρ F o c h S) {U:List Nat} {a b:List TV} (L:tK ids o U a b):∀{S0:Ft} {vs:List Value},cp c ρ F h X.base S0 a vs→(∃S1,cp ids.length (eM ids zf ρ) F h X.base S1 b vs∧S1.Perm (S0++U.flatMap S))∧∀u∈U,∃y,look o u=some y:=by
 induction L with
 |nil=>intro S0 vs hv;cases hv;exact⟨⟨[],.nil,by simp⟩,by simp⟩
 |own hL _ ih=>
  rename_i U1 U2 a y l m _;intro S0 vs hv;have split:∃A B v lB,S0=A++B∧vs=v::lB∧cp c ρ F h X.base A [a] [v]∧cp c ρ F h X.base B l lB:=by
   cases hv with
   |vr h1 h2=>exact⟨[],_,_,_,rfl,rfl,.vr h1 .nil,h2⟩
   |cl h1 h2=>exact⟨_,_,_,_,rfl,rfl,by simpa using cp.cl h1 .nil,h2⟩
  obtain⟨A,B,v,lB,rfl,rfl,h1,h2⟩:=split;obtain⟨g1,g2⟩:=hL.rel H K;obtain⟨A1,k1,k2⟩:=g1 A v h1;obtain⟨⟨B1,k3,k4⟩,g3⟩:=ih h2;refine⟨⟨A1++B1,.cl k1 k3,(k2.append k4).trans ?_⟩,fun u hu=>(List.mem_append.1 hu).elim (g2 u) (g3 u)⟩;rw[List.flatMap_append];simp only[List.append_assoc];refine List.Perm.append_left _ ?_;rw[←List.append_assoc,←List.append_assoc];exact List.perm_append_comm.append_right _
 |v hV hp _ ih=>
  rename_i U1 a b l m _;intro S0 vs hv;cases hv with
  |vr h1 h2=>
   obtain⟨⟨S1,k1,k2⟩,k3⟩:=ih h2;exact⟨⟨S1,.vr (nS H _ _ _ hV h1) k1,k2⟩,k3⟩
  |cl h1 h2=>
   cases h1 with
   |fz VE tM=>
    obtain⟨⟨S1,k1,k2⟩,k3⟩:=ih h2;exact⟨⟨S1,.vr (nS H _ _ _ hV (tM.dm VE)) k1,k2⟩,k3⟩
   |own=>simp[dM]at hp
theorem tK.len {U:List Nat} {a b:List TV} (L:tK ids o U a b):a.length=b.length:=by
 induction L with
 |nil=>rfl
 |own _ _ ih=>simp[ih]
 |v _ _ _ ih=>simp[ih]
theorem jy:∀{ids:List (Option Nat)} {k m:Nat},gD c ids=true→ids[k]? =some (some m)→m<c
 |[],k,m,_,h=>by simp at h
 |none::l,k,m,hi,h=>by
  cases k with
  |zero=>simp at h
  |succ k=>exact jy (ids:=l) hi (by simpa using h)
 |some m'::l,k,m,hi,h=>by
  simp only[gD,Bool.and_eq_true,aI]at hi;cases k with
  |zero=>simp at h;subst h;exact hi.1.1
  |succ k=>exact jy (ids:=l) hi.2 (by simpa using h)
theorem kP:∀{ids:List (Option Nat)} {k k' m:Nat},gD c ids=true→ids[k]? =some (some m)→ids[k']? =some (some m)→k=k'
 |[],k,k',m,_,h,_=>by simp at h
 |none::l,k,k',m,hi,h,h'=>by
  cases k with
  |zero=>simp at h
  |succ k=>cases k' with
   |zero=>simp at h'
   |succ k'=>exact congrArg (· +1) (kP (ids:=l) hi (by simpa using h) (by simpa using h'))
 |some m'::l,k,k',m,hi,h,h'=>by
  simp only[gD,Bool.and_eq_true,aI,Bool.not_eq_true',List.contains_eq_mem]at hi;have hn:some m'∉l:=by simpa using hi.1.2
  cases k with
  |zero=>cases k' with
   |zero=>rfl
   |succ k'=>
    simp at h h';subst h;exact absurd (List.mem_of_getElem? h') hn
  |succ k=>cases k' with
   |zero=>
    simp at h h';subst h';exact absurd (List.mem_of_getElem? h) hn
   |succ k'=>exact congrArg (· +1) (kP (ids:=l) hi.2 (by simpa using h) (by simpa using h'))
theorem xA:∀{n k:Nat} {ids:List (Option Nat)},mW n k ids=true→∀i,i<n→ids[i]? =some (some (k+i))
 |0,k,ids,_,i,hi=>by omega
 |n+1,k,[],h,i,hi=>by simp[mW]at h
 |n+1,k,none::l,h,i,hi=>by simp[mW]at h
 |n+1,k,some m::l,h,i,hi=>by
  simp only[mW,Bool.and_eq_true,beq_iff]at h;obtain⟨rfl,h2⟩:=h;cases i with
  |zero=>simp
  |succ i=>
   have:=xA h2 i om;simp only[List.getElem?_cons_succ,this]
   congr 2;omega
def G8:TO→Nat
 | .arr z _ _=>z
 | .bZ z _ _=>z
 |_=>0
def DB (o1:Ob) (n:Nat):Nat:=match look o1 n with|some y=>G8 y|none=>0
theorem jz {base z i:Nat} {S:Ft} {es:List (List TV)} {x:List TV} {cs:List Value} (hz:∀e∈es,e.length=z) (hi:i<es.length) (H:cp c ρ F h base S (es.set i x).flatten cs):
 ∃S1 S2 S3 v1 v2 v3,S=S1++(S2++S3)∧cs=v1++(v2++v3)∧cp c ρ F h base S1 (es.flatten.take (i*z)) v1∧cp c ρ F h base S2 x v2∧cp c ρ F h base S3 ((es.flatten.drop (i*z)).drop z) v3:=by
 rw[iB hz hi]at H;have h1:(es.flatten.take (i*z)).length=i*z:=by
  obtain⟨e,he⟩:∃e,es[i]? =some e:=⟨_,List.getElem?_eq_getElem hi⟩;have:=(eo hz he).2;rw[Nat.add_mul]at this;rw[List.length_take];omega
 obtain⟨S1,R,rfl,k1,k2⟩:=H.split (i*z);rw[List.take_append_of_le_length om,List.take_of_length_le om]at k1;rw[List.drop_append,List.drop_eq_nil_of_le om,h1,Nat.sub_self,List.drop_zero,List.nil_append]at k2;obtain⟨S2,S3,rfl,k3,k4⟩:=k2.split x.length;rw[List.take_append_of_le_length (Nat.le_refl _),List.take_of_length_le (Nat.le_refl _)]at k3;rw[List.drop_append,List.drop_eq_nil_of_le (Nat.le_refl _),Nat.sub_self,List.drop_zero,List.nil_append]at k4;exact⟨S1,S2,S3,_,_,_,rfl,by rw[List.take_append_drop,List.take_append_drop],k1,k3,k4⟩
theorem nT {base z i:Nat} {S1 S2 S3:Ft} {es:List (List TV)} {y:List TV} {v1 v2 v3:List Value} (hz:∀e∈es,e.length=z) (hi:i<es.length)
 (h1:cp c ρ F h base S1 (es.flatten.take (i*z)) v1) (h2:cp c ρ F h base S2 y v2) (h3:cp c ρ F h base S3 ((es.flatten.drop (i*z)).drop z) v3):cp c ρ F h base (S1++(S2++S3)) (es.set i y).flatten (v1++(v2++v3)):=by
 rw[iB hz hi];exact h1.join (h2.join h3)
theorem uR {es:List (List TV)} (bV:∀e∈es,∀t∈e,kM t=true):∀t∈es.flatten,kM t=true:=fun t ht=>by
 obtain⟨e,h1,h2⟩:=List.mem_flatten.1 ht;exact bV e h1 t h2
theorem mE.NR {t:TV} (h:fz t=true):mE ids o (.v t) (.v t):=by
 cases t with
 |s v=>exact .s Lz.rfl
 |sl z es fl=>exact .sl (by simp) (by simp) Lz.rfl
 |lr t v=>
  cases v with
  |s v=>exact .lr (.s Lz.rfl)
  |_=>simp[fz]at h
 |cJ g a c=>
  cases a with
  |nil=>
   cases c with
   |nil=>exact .cJ .nil .nil
   |cons=>simp[fz]at h
  |cons=>simp[fz]at h
 |_=>simp[fz]at h
theorem tK.Fu:∀{l:List TV},(∀t∈l,kM t=true)→tK ids o [] l l
 |[],_=>.nil
 |t::l,h=>by
  have ht:=h t List.mem_cons_self;have ih:=tK.Fu fun x hx=>h x (List.mem_cons_of_mem _ hx);by_cases hq:dM t=true
  ·refine .v (mE.NR ?_) hq ih;cases t<;>first|exact ht|(simp[dM]at hq)
  ·cases t with
   |own y=>exact .own (.same Lz.rfl) ih
   |_=>simp[dM]at hq
theorem tK.append {U:List Nat} {a b:List TV} (L:tK ids o U a b) {a' b':List TV} (L':tK ids o [] a' b'):tK ids o U (a++a') (b++b'):=by
 induction L with
 |nil=>exact L'
 |own h _ ih=>exact .own h ih
 |v h hp _ ih=>exact .v h hp ih
inductive mj (ids:List (Option Nat)) (o:Ob):List (List TV)→List (List TV)→Prop
 |nil:mj ids o [] []
 |cons {x y:List TV} {l m:List (List TV)} (h:tK ids o [] x y) (k:mj ids o l m):mj ids o (x::l) (y::m)
theorem mj.refl:∀{es:List (List TV)},(∀e∈es,∀t∈e,kM t=true)→mj ids o es es
 |[],_=>.nil
 |e::_,h=>.cons (tK.Fu (h e List.mem_cons_self)) (mj.refl fun x hx=>h x (List.mem_cons_of_mem _ hx))
theorem mj.set {l m:List (List TV)} (R:mj ids o l m) {x y:List TV} (h:tK ids o [] x y):∀i:Nat,mj ids o (l.set i x) (m.set i y):=by
 induction R with
 |nil=>intro i;exact .nil
 |cons h1 k ih=>
  intro i;cases i with
  |zero=>exact .cons h k
  |succ i=>exact .cons h1 (ih i)
theorem mj.flatten {l m:List (List TV)} (R:mj ids o l m):tK ids o [] l.flatten m.flatten:=by
 induction R with
 |nil=>exact .nil
 |cons h _ ih=>rw[List.flatten_cons,List.flatten_cons];exact h.append ih
theorem xu.rows {op GY:List (Nat×List TV)} (L:xu ids o op GY) {es:List (List TV)} (bV:∀e∈es,∀t∈e,kM t=true):mj ids o (cd es op) (cd es GY)∧∀p∈GY,∃x,(p.1,x)∈op∧x.length=p.2.length:=by
 induction L with
 |nil=>exact⟨.refl bV,by simp⟩
 |cons h _ ih=>
  refine⟨ih.1.set h _,fun p hp=>?_⟩;rcases List.mem_cons.1 hp with rfl |hp
  ·exact⟨_,List.mem_cons_self,h.len⟩
  ·obtain⟨x,q1,q2⟩:=ih.2 p hp;exact⟨x,List.mem_cons_of_mem _ q1,q2⟩
theorem AB.rel (H:Mem X ρ F o c h) {S:Nat→Ft} (K:MO X ρ F o c h S) {U:List Nat} {q:Option (Option TO)} {y:TO} (L:AB ids o U q y) {n:Nat} (hq:q=zD ids o n) (Nj:zf n=G8 y):
 ∃S1,OR ids.length (eM ids zf ρ) F h X.base n S1 y∧((∃m,ids[n]? =some (some m)∧(∃y,look o m=some y)∧S1.Perm ((m::U).flatMap S))∨(S1=[]∧U=[]))∧∀u∈U,∃y,look o u=some y:=by
 have src:∀y0,some (some y0)=zD ids o n→∃m,ids[n]? =some (some m)∧look o m=some y0:=by
  intro y0 hs;unfold zD at hs;split at hs
  ·rename_i m hm;split at hs
   ·rename_i y1 hy;cases hs;exact⟨m,hm,hy⟩
   ·cases hs
  ·cases hs
  ·cases hs
 have isn:some none=zD ids o n→ids[n]? =some none:=by
  intro hs;unfold zD at hs;split at hs
  ·split at hs<;>cases hs
  ·assumption
  ·cases hs
 have fin:∀{U:List Nat} {y y0:TO},some (some y0)=zD ids o n→(∀m S0,ids[n]? =some (some m)→look o m=some y0→eM ids zf ρ n=ρ m→OR c ρ F h X.base m S0 y0→∃S1,OR ids.length (eM ids zf ρ) F h X.base n S1 y∧S1.Perm (S0++U.flatMap S))→(∀u∈U,∃y,look o u=some y)→
  ∃S1,OR ids.length (eM ids zf ρ) F h X.base n S1 y∧((∃m,ids[n]? =some (some m)∧(∃y,look o m=some y)∧S1.Perm ((m::U).flatMap S))∨(S1=[]∧U=[]))∧∀u∈U,∃y,look o u=some y:=by
  intro U y y0 hs hf hU;obtain⟨m,h1,h2⟩:=src y0 hs;obtain⟨S1,k1,k2⟩:=hf m _ h1 h2 (by simp[eM,h1]) (K.bN m y0 h2);exact⟨S1,k1,.inl ⟨m,h1,⟨y0,h2⟩,by simpa using k2⟩,hU⟩
 have p0:∀(S0:Ft),S0.Perm (S0++([]:List Nat).flatMap S):=fun S0=>by simp
 have closed:∀{U:List Nat} {y y0:TO},some (some y0)=zD ids o n→ie o U (.b (some y0) y)→∃S1,OR ids.length (eM ids zf ρ) F h X.base n S1 y∧((∃m,ids[n]? =some (some m)∧(∃y,look o m=some y)∧S1.Perm ((m::U).flatMap S))∨(S1=[]∧U=[]))∧∀u∈U,∃y,look o u=some y:=by
  intro U y y0 hs hL;obtain⟨g1,g2⟩:=hL.rel H K;refine fin hs (fun m S0 h1 h2 eK hO=>?_) g2;obtain⟨l,hl⟩:=hO.loc;obtain⟨S1,k1,k2⟩:=g1 y0 m S0 l rfl hO hl;exact⟨S1,OR.qg k1 (eK.trans hl),k2⟩
 cases L with
 |cells hN=>
  obtain⟨m,h1,h2⟩:=src _ hq;have hO:=K.bN m _ h2;refine fin hq (fun m' S0 _ _ eK RM=>?_) ?_
  ·cases RM with
   |cells hb hg ht hc=>
    obtain⟨⟨S1,k1,k2⟩,_⟩:=hN.rel (zf:=zf) H K hc;exact⟨_,.cells (eK.trans hb) hg ht k1,k2.cons _⟩
  ·generalize S m=S0 at hO;cases hO with
   |cells hb hg ht hc=>exact(hN.rel (zf:=zf) H K hc).2
 |map he=>exact closed hq (.map he)
 |NN he=>exact closed hq (.NN he)
 |arr he=>exact closed hq (.arr he)
 |NO he=>exact closed hq (.NO he)
 |bZ hs he hL=>exact closed hq (.bZ hs he hL)
 |GX hs he mi hL=>exact closed hq (.GX hs he mi hL)
 |dY hs he hL=>exact closed hq (.dY hs he hL)
 |fM he=>exact closed hq (.fM he)
 |Y0 he hi hN=>
  rename_i z a b i j x w;obtain rfl:=he.eq;obtain rfl:=hi.eq;obtain⟨m,h1,h2⟩:=src _ hq;have hO:=K.bN m _ h2;refine fin hq (fun m' S0 _ _ eK RM=>?_) ?_
  ·cases RM with
   |bZ hb hg hf ht dy hz hl he bV jb hc=>
    obtain⟨o1,o2⟩:=jb (i,x) (by simp);obtain⟨S1,S2,S3,v1,v2,v3,rfl,rfl,a1,a2,a3⟩:=jz he o1 hc;obtain⟨⟨S4,k1,k2⟩,_⟩:=hN.rel (zf:=zf) H K a2;have fc:=uR bV;have:=nT he o1 (a1.conv (c':=ids.length) (ρ':=eM ids zf ρ) fun t ht=>fc t (List.mem_of_mem_take ht)) k1 (a3.conv fun t ht=>fc t (List.mem_of_mem_drop (List.mem_of_mem_drop ht)));refine⟨_,.bZ (eK.trans hb) hg hf ht dy hz hl he bV (fun p hp=>?_) this,?_⟩
    ·simp only[List.mem_singleton]at hp;subst hp;exact⟨o1,by rw[←hN.len];exact o2⟩
    ·refine List.Perm.cons _ ((List.Perm.append_left S1 (k2.append_right S3)).trans ?_);show List.Perm _ ((S1++(S2++S3))++U.flatMap S);simp only[List.append_assoc];exact(List.perm_append_comm.append_left _).append_left _
  ·generalize S m=S0 at hO;cases hO with
   |bZ hb hg hf ht dy hz hl he bV jb hc=>
    obtain⟨o1,o2⟩:=jb (i,x) (by simp);obtain⟨S1,S2,S3,v1,v2,v3,rfl,rfl,a1,a2,a3⟩:=jz he o1 hc;exact(hN.rel (zf:=zf) H K a2).2
 |Y1 he hk ha hN=>
  rename_i kd a b k k' x w;obtain rfl:=he.eq;obtain rfl:=hk.eq;obtain⟨m,h1,h2⟩:=src _ hq;have hO:=K.bN m _ h2;have hU:∀u∈U,∃y,look o u=some y:=by
   generalize S m=S0 at hO;cases hO with
   |dY hb hg bV hc bU=>
    have key:∀{es:List (Value×TV)} {S0:Ft} {ev:List MapEntry},gG c ρ F h X.base kd S0 (dc es k x) ev→∃S2 vs,cp c ρ F h X.base S2 (ax x) vs:=by
     intro es
     induction es with
     |nil=>intro S0 ev hE;cases hE with|cons _ _ _ hv _=>exact⟨_,_,hv⟩
     |cons e es ih=>
      intro S0 ev hE;unfold dc at hE;split at hE
      ·cases hE with|cons _ _ _ hv _=>exact⟨_,_,hv⟩
      ·cases hE with|cons _ _ _ _ hl=>exact ih hl
    obtain⟨S2,vs,hv⟩:=key hc;exact(hN.rel (zf:=zf) H K hv).2
  refine fin hq (fun m' S0 _ _ eK RM=>?_) hU;cases RM with
  |dY hb hg bV hc bU=>
   obtain⟨S1,q1,q2⟩:=gG.put (c':=ids.length) (ρ':=eM ids zf ρ) (V:=U.flatMap S) ha (fun S2 x h2=>(hN.rel (zf:=zf) H K h2).1) bV hc;exact⟨_,.dY (eK.trans hb) hg bV q1 bU,q2.cons _⟩
 |NP he hN=>
  rename_i z a b op GY;obtain rfl:=he.eq;refine fin hq (fun m' S0 _ _ eK RM=>?_) (by simp);cases RM with
  |bZ hb hg hf ht dy hz hl he bV jb hc=>
   obtain⟨r1,r2⟩:=hN.rows bV;obtain⟨⟨S1,k1,k2⟩,_⟩:=r1.flatten.rel (zf:=zf) H K hc;refine⟨_,.bZ (eK.trans hb) hg hf ht dy hz hl he bV (fun p hp=>?_) k1,k2.cons _⟩;obtain⟨x,q1,q2⟩:=r2 p hp;obtain⟨w1,w2⟩:=jb _ q1;exact⟨w1,by rw[←q2];exact w2⟩
  |fD hb hz=>
   cases hN;exact⟨[],.fD (eK.trans hb) hz,by simp⟩
 |new hz=>
  have hi:=isn hq;exact⟨[],.nil (by simp[eM,hi,Nj,G8]) (aI.1 hz),.inr ⟨rfl,rfl⟩,by simp⟩
 |Y2 hz=>
  have hi:=isn hq;exact⟨[],.fD (by simp[eM,hi,Nj,G8]) (aI.1 hz),.inr ⟨rfl,rfl⟩,by simp⟩
theorem xB:∀{l:List Nat},zE l=true→l.Nodup
 |[],_=>List.nodup_nil
 |n::l,h=>by
  simp only[zE,Bool.and_eq_true,Bool.not_eq_true',List.contains_eq_mem,decide_eq_false_iff_not]at h;exact List.nodup_cons.2 ⟨h.1,xB h.2⟩
theorem G9 {U:List Nat} (h:ko ids U=true):U.Nodup∧∀u∈U,∀k:Nat,ids[k]? ≠some (some u):=by
 simp only[ko,Bool.and_eq_true,List.all_eq_true,Bool.not_eq_true',List.contains_eq_mem,decide_eq_false_iff_not]at h;exact⟨xB h.1,fun u hu k hk=>h.2 u hu (List.mem_of_getElem? hk)⟩
theorem Fi.RN (_:Mem X ρ F o c h) {S:Nat→Ft} (_:MO X ρ F o c h S) {U:List Nat} {o1:Ob} (L:Fi ids o U o1):U.Nodup→∃Un:Nat→List Nat,(∀n,∀u∈Un n,u∈U)∧(∀n,(Un n).Nodup)∧(∀n1 n2 u,u∈Un n1→u∈Un n2→n1=n2)∧∀n y,look o1 n=some y→AB ids o (Un n) (zD ids o n) y:=by
 induction L with
 |nil=>intro _;exact⟨fun _=>[],by simp,by simp,by simp,fun n y hl=>by cases hl⟩
 |cons hT _ ih=>
  rename_i U1 U2 m y l _;intro Bm;obtain⟨n1,n2,n3⟩:=List.nodup_append.1 Bm;obtain⟨Un,k1,k2,k3,k4⟩:=ih n2;refine⟨fun n=>if n=m then U1 else Un n,fun n u hu=>?_,fun n=>?_,fun a b u ha hb=>?_,fun n y' hl=>?_⟩
  ·by_cases e:n=m
   ·simp only[e,if_true]at hu;exact List.mem_append_left _ hu
   ·simp only[e,if_false]at hu;exact List.mem_append_right _ (k1 n u hu)
  ·by_cases e:n=m
   ·simp only[e,if_true];exact n1
   ·simp only[e,if_false];exact k2 n
  ·by_cases ea:a=m<;>by_cases eb:b=m
   ·rw[ea,eb]
   ·simp only[ea,if_true]at ha;simp only[eb,if_false]at hb;exact absurd rfl (n3 u ha u (k1 b u hb))
   ·simp only[ea,if_false]at ha;simp only[eb,if_true]at hb;exact absurd rfl (n3 u hb u (k1 a u ha))
   ·simp only[ea,if_false]at ha;simp only[eb,if_false]at hb;exact k3 a b u ha hb
  ·rw[aC]at hl;by_cases e:m=n
   ·rw[if_pos e]at hl;cases hl;subst e;simpa using hT
   ·rw[if_neg e]at hl;have:¬n=m:=fun e'=>e e'.symm;simp only[this,if_false];exact k4 n y' hl
structure Told (X:Cx) (ρ:Gh) (F:Nat→Prop) (o:Ob) (h:ah) (S:Nat→Ft) (ids:List (Option Nat)) (U:List Nat) (o1:Ob) (S1:Nat→Ft) (Ns:Nat→List Nat):Prop where
 bN:∀n y,look o1 n=some y→OR ids.length (eM ids (DB o1) ρ) F h X.base n (S1 n) y
 perm:∀n y,look o1 n=some y→(S1 n).Perm ((Ns n).flatMap S)
 AD:∀n y,look o1 n=some y→(Ns n).Nodup
 fy:∀n y u,look o1 n=some y→u∈Ns n→∃y,look o u=some y
 VF:∀n y u,look o1 n=some y→u∈Ns n→ids[n]? =some (some u)∨u∈U
 one:∀n1 n2 y1 y2 u,look o1 n1=some y1→look o1 n2=some y2→u∈Ns n1→u∈Ns n2→n1=n2
open Classical in
open Classical in
theorem Fi.told (H:Mem X ρ F o c h) {S:Nat→Ft} (K:MO X ρ F o c h S) {U:List Nat} {o1:Ob} (L:Fi ids o U o1) (hi:gD c ids=true) (hU:ko ids U=true):∃S1 Ns,Told X ρ F o h S ids U o1 S1 Ns:=by
 obtain⟨u1,u2⟩:=G9 hU;obtain⟨Un,k1,k2,k3,k4⟩:=L.RN H K u1;have each:∀n,∃(S1:Ft) (N:List Nat),∀y,look o1 n=some y→OR ids.length (eM ids (DB o1) ρ) F h X.base n S1 y∧S1.Perm (N.flatMap S)∧N.Nodup∧(∀u∈N,∃y,look o u=some y)∧∀u∈N,ids[n]? =some (some u)∨u∈Un n:=by
  intro n;cases hl:look o1 n with
  |none=>exact⟨[],[],fun y hy=>by cases hy⟩
  |some y=>
   obtain⟨S1,h1,h2,h3⟩:=(k4 n y hl).rel (zf:=DB o1) H K rfl (by simp[DB,hl]);rcases h2 with⟨m,q1,q2,q3⟩|⟨rfl,q2⟩
   ·refine⟨S1,m::Un n,fun y' VG=>?_⟩;cases VG;refine⟨h1,q3,List.nodup_cons.2 ⟨fun hm=>u2 m (k1 n m hm) n q1,k2 n⟩,fun u hu=>?_,fun u hu=>?_⟩
    ·rcases List.mem_cons.1 hu with rfl |hu
     ·exact q2
     ·exact h3 u hu
    ·rcases List.mem_cons.1 hu with rfl |hu
     ·exact .inl q1
     ·exact .inr hu
   ·exact⟨[],[],fun y' VG=>by cases VG;exact⟨h1,by simp,by simp,by simp,by simp⟩⟩
 refine⟨fun n=>Classical.choose (each n),fun n=>Classical.choose (Classical.choose_spec (each n)),?_⟩;have sp:=fun n y (hl:look o1 n=some y)=>Classical.choose_spec (Classical.choose_spec (each n)) y hl;refine⟨fun n y hl=>(sp n y hl).1,fun n y hl=>(sp n y hl).2.1,fun n y hl=>(sp n y hl).2.2.1,fun n y u hl hu=>(sp n y hl).2.2.2.1 u hu,fun n y u hl hu=>((sp n y hl).2.2.2.2 u hu).imp id (k1 n u),fun a b y1 y2 u hla hlb ha hb=>?_⟩;rcases(sp a y1 hla).2.2.2.2 u ha with p|p<;>rcases(sp b y2 hlb).2.2.2.2 u hb with q|q
 ·exact kP hi p q
 ·exact absurd p (u2 u (k1 b u q) a)
 ·exact absurd q (u2 u (k1 a u p) b)
 ·exact k3 a b u p q
theorem Bt {S:Nat→Ft} {N:List Nat} {x:Nat}:x∈cQ (N.flatMap S)↔∃u∈N,x∈cQ (S u):=by
 unfold cQ;simp only[List.mem_map,List.mem_flatMap];constructor
 ·rintro⟨p,⟨u,h1,h2⟩,h3⟩;exact⟨u,h1,p,h2,h3⟩
 ·rintro⟨u,h1,p,h2,h3⟩;exact⟨p,⟨u,h1,h2⟩,h3⟩
theorem MO.uS {S:Nat→Ft} (K:MO X ρ F o c h S):∀{N:List Nat},N.Nodup→(∀u∈N,∃y,look o u=some y)→(cQ (N.flatMap S)).Nodup
 |[],_,_=>by simp[cQ]
 |u::N,hn,hd=>by
  obtain⟨h1,h2⟩:=List.nodup_cons.1 hn;obtain⟨y,hy⟩:=hd u List.mem_cons_self;rw[List.flatMap_cons,nQ];refine List.nodup_append.2 ⟨K.AD u y hy,K.uS h2 fun v hv=>hd v (List.mem_cons_of_mem _ hv),fun a ha b hb e=>?_⟩;subst e;obtain⟨v,hv,hx⟩:=Bt.1 hb;obtain⟨y',VG⟩:=hd v (List.mem_cons_of_mem _ hv);have:=K.eJ u v y y' a hy VG ha hx;subst this;exact h1 hv
section
variable {S S1:Nat→Ft} {U:List Nat} {o1:Ob} {Ns:Nat→List Nat}
theorem Told.mem (D:Told X ρ F o h S ids U o1 S1 Ns) {n:Nat} {y:TO} (hl:look o1 n=some y) {x:Nat}:x∈cQ (S1 n)↔∃u∈Ns n,x∈cQ (S u):=by
 rw[←Bt];exact((D.perm n y hl).map _).mem_iff
theorem Told.VH (D:Told X ρ F o h S ids U o1 S1 Ns) (K:MO X ρ F o c h S) {n:Nat} {y:TO} (hl:look o1 n=some y):(cQ (S1 n)).Nodup:=
 ((D.perm n y hl).map _).nodup_iff.2 (K.uS (D.AD n y hl) fun u hu=>D.fy n y u hl hu)
theorem Told.eJ (D:Told X ρ F o h S ids U o1 S1 Ns) (K:MO X ρ F o c h S) {n1 n2:Nat} {y1 y2:TO} {x:Nat} (h1:look o1 n1=some y1) (h2:look o1 n2=some y2) (k1:x∈cQ (S1 n1)) (k2:x∈cQ (S1 n2)):n1=n2:=by
 obtain⟨u,a1,a2⟩:=(D.mem h1).1 k1;obtain⟨v,b1,b2⟩:=(D.mem h2).1 k2;obtain⟨_,c1⟩:=D.fy _ _ _ h1 a1;obtain⟨_,c2⟩:=D.fy _ _ _ h2 b1;have:=K.eJ u v _ _ x c1 c2 a2 b2;subst this;exact D.one _ _ _ _ _ h1 h2 a1 b1
theorem Told.eD (D:Told X ρ F o h S ids U o1 S1 Ns) (K:MO X ρ F o c h S) {n:Nat} {y:TO} {x:Nat} (hl:look o1 n=some y) (k:x∈cQ (S1 n)):X.base≤x∧x<h.size∧(X.M x∨X.h0.size≤x):=by
 obtain⟨u,a1,a2⟩:=(D.mem hl).1 k;obtain⟨_,c1⟩:=D.fy _ _ _ hl a1;exact K.eD u _ x c1 a2
theorem Told.apart (D:Told X ρ F o h S ids U o1 S1 Ns) (K:MO X ρ F o c h S) {n:Nat} {y:TO} {x b:Nat} (hl:look o1 n=some y) (k:(x,true)∈S1 n) (hb:F b):hd h b≠x:=by
 have:=(D.perm n y hl).mem_iff.1 k;obtain⟨u,a1,a2⟩:=List.mem_flatMap.1 this;obtain⟨_,c1⟩:=D.fy _ _ _ hl a1;exact K.apart u _ x b c1 a2 hb
end
theorem uT (_:∀n l,ρ n=some l→n<c) {o1:Ob} {n:Nat} {l:Loc} (h:eM ids (DB o1) ρ n=some l):n<ids.length:=by
 unfold eM at h;cases hq:ids[n]? with
 |none=>rw[hq]at h;cases h
 |some q=>exact pk hq
theorem Mem.le (H:Mem X ρ F o c h) {U:List Nat} {o1:Ob} (hi:gD c ids=true) (hp:mW X.c0 0 ids=true) (hU:ko ids U=true) (hO:Fi ids o U o1):
 Mem X (eM ids (DB o1) ρ) F o1 ids.length h:=by
 obtain⟨S,K⟩:=H.ex;obtain⟨S1,Ns,D⟩:=hO.told H K hi hU;have pre:=xA hp;refine⟨⟨S1,D.bN,fun n y hl=>D.VH K hl,fun n1 n2 y1 y2 x h1 h2=>D.eJ K h1 h2,fun n y x hl=>D.eD K hl,fun n y x b hl=>D.apart K hl⟩,fun n l hn=>uT H.names hn,H.frozen,H.F0,H.wf,H.my,H.lq,H.zH,?_,fun k l hk hl=>?_,fun k b hk hb=>?_⟩
 ·rcases Nat.lt_or_ge ids.length X.c0 with h1|h1
  ·have:=pk (pre ids.length h1);omega
  ·exact h1
 ·have:=pre k hk;rw[Nat.zero_add]at this;exact H.wO.2.1 k l hk (by simpa[eM,this]using hl)
 ·have:=pre k hk;rw[Nat.zero_add]at this;simp only[eM,this];exact H.wO.2.2 k b hk hb
theorem Mem.bQ (sh:List Nat):∀{F:Nat→Prop} {o:Ob},Mem X ρ F o c h→∃F',Mem X ρ F' (M.bQ sh o) c h∧(∀t v,VR c ρ F h t v→VR c ρ F' h t v)∧(∀b,F b→F' b):=by
 induction sh with
 |nil=>intro F o H;exact⟨F,H,fun _ _ h=>h,fun _ h=>h⟩
 |cons m sh ih=>
  intro F o H;obtain⟨F1,H1,m1,f1,_⟩:=H.share m;obtain⟨F2,H2,m2,f2⟩:=ih H1;exact⟨F2,H2,fun t v h=>m2 t v (m1 t v h),fun b h=>f2 b (f1 b h)⟩
end
def kp (S:Nat→Ft) (o:Ob):Nat→Prop:=fun x=>∃k y,look o k=some y∧x∈cQ (S k)
def zL (base:Nat) (ρ:Gh) (F:Nat→Prop) (o:Ob) (c:Nat) (h:ah) (S:Nat→Ft):Cx:=⟨base,h,kp S o,F,c,ρ⟩
def jA (T:Env) (F:Nat→Prop) (h:ah):Prop:=∀g cs,T.tF g=some cs→F g∧h.rd g=some cs∧True
def DC (T:Env) (X:Cx):Prop:=jA T X.F0 X.h0
theorem DC.now {T:Env} {X:Cx} {ρ:Gh} {F:Nat→Prop} {o:Ob} {c:Nat} {h:ah} (N:DC T X) (H:Mem X ρ F o c h):jA T F h:=fun g cs hg=>
 let⟨n1,n2,n3⟩:=N g cs hg
 ⟨H.F0 g n1,(H.my.cE g n1).trans n2,n3⟩
def VC (E:Env):Ja:=fun g c args o R=>
 ∀(base:Nat) (ρ:Gh) (F:Nat→Prop) (h:ah) (S:Nat→Ft) (dJ:List Value),jA E F h→Mem (zL base ρ F o c h S) ρ F o c h→MO (zL base ρ F o c h S) ρ F o c h S→dh c ρ F h args dJ→
  ∃n v h' ρ' F' r o' c',e6 E base n g dJ h=some (v,h')∧R r o' c'∧Mem (zL base ρ F o c h S) ρ' F' o' c' h'∧VR c' ρ' F' h' r v
theorem Y3.refl (M F0:Nat→Prop) (h:ah):Y3 M F0 h h:=⟨Nat.le_refl _,fun _ _ _=>rfl,fun _ _=>rfl,fun _ _=>rfl⟩
section
variable {X:Cx} {ρ:Gh} {F:Nat→Prop} {o:Ob} {c:Nat} {h:ah} {ids:List (Option Nat)}
theorem Mem.hand (H:Mem X ρ F o c h) {S S1:Nat→Ft} {U:List Nat} {Ns:Nat→List Nat} (K:MO X ρ F o c h S) {o0:Ob} (D:Told X ρ F o h S ids U o0 S1 Ns):
 Mem (zL X.base (eM ids (DB o0) ρ) F o0 ids.length h S1) (eM ids (DB o0) ρ) F o0 ids.length h∧MO (zL X.base (eM ids (DB o0) ρ) F o0 ids.length h S1) (eM ids (DB o0) ρ) F o0 ids.length h S1:=by
 have M:MO (zL X.base (eM ids (DB o0) ρ) F o0 ids.length h S1) (eM ids (DB o0) ρ) F o0 ids.length h S1:=
  ⟨D.bN,fun n y hl=>D.VH K hl,fun n1 n2 y1 y2 x h1 h2=>D.eJ K h1 h2,fun n y x hl hx=>⟨(D.eD K hl hx).1,(D.eD K hl hx).2.1,.inl ⟨n,y,hl,hx⟩⟩,fun n y x b hl=>D.apart K hl⟩
 exact⟨⟨⟨S1,M⟩,fun n l hn=>uT H.names hn,H.frozen,fun _ hb=>hb,H.wf,.refl _ _ _,H.lq,fun _ hb=>.inl hb,Nat.le_refl _,fun _ _ _ hl=>hl,fun _ _ _ hb=>hb⟩,M⟩
open Classical in
noncomputable def ou (ids:List (Option Nat)) (c:Nat) (ρ ρ':Gh):Gh:=fun n=>
 if hx:∃k:Nat,ids[k]? =some (some n)then ρ' (Classical.choose hx)else if n<c then ρ n else if(∃m:Nat,ids[n - c]? =some (some m))then none else ρ' (n - c)
theorem DD {ρ':Gh} (hi:gD c ids=true) {k m:Nat} (hk:ids[k]? =some (some m)):ou ids c ρ ρ' m=ρ' k:=by
 unfold ou;have hx:∃k:Nat,ids[k]? =some (some m):=⟨k,hk⟩;rw[dif_pos hx,kP hi (Classical.choose_spec hx) hk]
theorem tN {ρ':Gh} {n:Nat} (hn:∀k:Nat,ids[k]? ≠some (some n)) (hc:n<c):ou ids c ρ ρ' n=ρ n:=by
 unfold ou;rw[dif_neg (fun⟨k,hk⟩=>hn k hk),if_pos hc]
theorem J6 {ρ':Gh} (hi:gD c ids=true) (k:Nat):ou ids c ρ ρ' (back ids c k)=ρ' k:=by
 unfold back;split
 ·rename_i m hm;exact DD hi hm
 ·rename_i Az;unfold ou;rw[dif_neg,if_neg om,if_neg,Nat.add_sub_cancel_left]
  ·rintro⟨m,hm⟩;rw[Nat.add_sub_cancel_left]at hm;exact Az m hm
  ·rintro⟨k',nN⟩;have:=jy hi nN;omega
theorem uU (hi:gD c ids=true) {k k':Nat} (h:back ids c k=back ids c k'):k=k':=by
 unfold back at h;split at h
 ·rename_i m hm;split at h
  ·rename_i m' RJ;subst h;exact kP hi hm RJ
  ·have:=jy hi hm;omega
 ·split at h
  ·rename_i m' RJ;have:=jy hi RJ;omega
  ·omega
theorem NS (hi:gD c ids=true) {k c':Nat} (hk:k<c'):back ids c k<c+c':=by
 unfold back;split
 ·rename_i m hm;have:=jy hi hm;omega
 ·omega
theorem kQ (β:Nat→Nat):∀(l:List TV) (i:Nat),(TV.fJ β l)[i]? =(l[i]?).map (TV.km β)
 |[],i=>by simp[TV.fJ]
 |v::l,i=>by
  cases i with
  |zero=>simp[TV.fJ]
  |succ i=>simp[TV.fJ,kQ β l i]
theorem fk (β:Nat→Nat):∀(l:List TV),(TV.fJ β l).length=l.length
 |[]=>rfl
 |v::l=>by simp[TV.fJ,fk β l]
theorem VR.km {c' cc:Nat} {ρ' Jc:Gh} {F':Nat→Prop} {h':ah} {β:Nat→Nat} (zM:∀k,k<c'→β k<cc) (eK:∀k,Jc (β k)=ρ' k) {t:TV} {x:Value} (H:VR c' ρ' F' h' t x):VR cc Jc F' h' (t.km β) x:=by
 induction H with
 |j v=>exact .j v
 |s hp=>exact .s hp
 |nil he=>exact .nil he
 |sl h1 h2 h3 h4 h5 h6 h7 h8 h9 hc _=>exact .sl h1 h2 h3 h4 h5 h6 h7 h8 h9 fun i j e t v q1 q2 q3=>(hc i j e t v q1 q2 q3).dm (h9 e (List.mem_of_getElem? q1) t (List.mem_of_getElem? q2))
 |tk hn nR ha h0=>exact .tk (zM _ hn) nR (fun b z len hx=>ha b z len (by rw[←eK];exact hx)) (fun z hx=>h0 z (by rw[←eK];exact hx))
 |ptr hb=>exact .ptr (by rw[eK];exact hb)
 |ep h1 h2 h3 h4 hc _=>exact .ep h1 h2 h3 h4 fun j t v q1 q2=>(hc j t v q1 q2).dm (h4 t (List.mem_of_getElem? q1))
 |wp hn nR ha h0=>exact .wp (zM _ hn) nR (fun b z len hx=>ha b z len (by rw[←eK];exact hx)) (fun z hx=>h0 z (by rw[←eK];exact hx))
 |mp hb=>exact .mp (by rw[eK];exact hb)
 |bg hb=>exact .bg (by rw[eK];exact hb)
 |sv hn nR ha h0=>exact .sv (zM _ hn) nR (fun b z len hx=>ha b z len (by rw[←eK];exact hx)) (fun z hx=>h0 z (by rw[←eK];exact hx))
 |pv hn nR ha h0=>exact .pv (zM _ hn) nR (fun b z len hx=>ha b z len (by rw[←eK];exact hx)) (fun z hx=>h0 z (by rw[←eK];exact hx))
 |agg hs _ ih=>
  refine .agg (by rw[fk];exact hs) fun i t v q1 q2=>?_;rw[kQ,Option.map_eq_some_iff]at q1;obtain⟨t0,q3,rfl⟩:=q1;exact ih i t0 v q3 q2
 |dg hs _ ih=>
  refine .dg (by rw[fk];exact hs) fun i t v q1 q2=>?_;rw[kQ,Option.map_eq_some_iff]at q1;obtain⟨t0,q3,rfl⟩:=q1;exact ih i t0 v q3 q2
 |lr _ ih=>exact .lr ih
 |cJ hs _ ht _ yW yX=>
  refine .cJ (by rw[fk];exact hs) (fun i t v q1 q2=>?_) (by rw[fk];exact ht) (fun i t v q1 q2=>?_)
  ·rw[kQ,Option.map_eq_some_iff]at q1;obtain⟨t0,q3,rfl⟩:=q1;exact yW i t0 v q3 q2
  ·rw[kQ,Option.map_eq_some_iff]at q1;obtain⟨t0,q3,rfl⟩:=q1;exact yX i t0 v q3 q2
theorem dh.km {c' cc:Nat} {ρ' Jc:Gh} {F':Nat→Prop} {h':ah} {β:Nat→Nat} (zM:∀k,k<c'→β k<cc) (eK:∀k,Jc (β k)=ρ' k) {l:List TV} {m:List Value} (H:dh c' ρ' F' h' l m):dh cc Jc F' h' (TV.fJ β l) m:=by
 refine⟨by rw[fk];exact H.1,fun i t v q1 q2=>?_⟩;rw[kQ,Option.map_eq_some_iff]at q1;obtain⟨t0,q3,rfl⟩:=q1;exact(H.2 i t0 v q3 q2).km zM eK
theorem J7 (β:Nat→Nat) {t:TV} (hf:fz t=true):t.km β=t:=by
 unfold fz at hf;split at hf<;>first|rfl |(simp[TV.km];done)|(simp[TV.km,TV.fJ];done)|cases hf
theorem J8 (β:Nat→Nat) {t:TV} (hf:kM t=true):t.km β=t:=by
 unfold kM at hf;split at hf
 ·simp[TV.km]
 ·exact J7 β hf
theorem uV (β:Nat→Nat):∀{l:List TV},(∀t∈l,kM t=true)→TV.fJ β l=l
 |[],_=>rfl
 |t::l,h=>by simp only[TV.fJ];rw[J8 β (h t List.mem_cons_self),uV β fun t ht=>h t (List.mem_cons_of_mem _ ht)]
theorem Bu (β:Nat→Nat) (a b:List TV):TV.fJ β (a++b)=TV.fJ β a++TV.fJ β b:=by
 induction a with
 |nil=>rfl
 |cons t l ih=>simp[TV.fJ,ih]
theorem zN (β:Nat→Nat) (l:List (List TV)):TV.fJ β l.flatten=(l.map (TV.fJ β)).flatten:=by
 induction l with
 |nil=>rfl
 |cons t l ih=>simp[Bu,ih]
theorem Bv (β:Nat→Nat) {es:List (List TV)} (bV:∀e∈es,∀t∈e,kM t=true):∀op,cd es (uM β op)=(cd es op).map (TV.fJ β)
 |[]=>by
  show es=es.map (TV.fJ β);refine List.ext_getElem? fun i=>?_;rw[List.getElem?_map];cases he:es[i]? with
  |none=>rfl
  |some e=>simp[uV β (bV e (List.mem_of_getElem? he))]
 |p::l=>by
  show(cd es (uM β l)).set p.1 (TV.fJ β p.2)=((cd es l).set p.1 p.2).map (TV.fJ β);rw[Bv β bV l,List.map_set]
theorem Bw (f:TV→TV) (k:Value) (v:TV):∀es:List (Value×TV),(dc es k v).map (fun e=>(e.1,f e.2))=dc (es.map fun e=>(e.1,f e.2)) k (f v)
 |[]=>rfl
 |e::es=>by
  simp only[dc,List.map_cons];cases oG k e.1 with
  |true=>rfl
  |false=>simp[Bw f k v es]
theorem xC (β:Nat→Nat) (v:TV):ax (v.km β)=TV.fJ β (ax v)∧cP (v.km β)=cP v:=by
 cases v<;>simp[TV.km,ax,cP,TV.fJ]
theorem NT (β:Nat→Nat) {v:TV} (h:∀t∈ax v,kM t=true):v.km β=v:=by
 cases v with
 |agg cs=>
  have e:TV.fJ β cs=cs:=uV β h;simp only[TV.km,e]
 |_=>exact J8 β (h _ (by simp[ax]))
theorem Fv (β:Nat→Nat) {es:List (Value×TV)} (bV:∀e∈es,∀t∈ax e.2,kM t=true):∀op,GV es (Fj β op)=(GV es op).map fun e=>(e.1,e.2.km β)
 |[]=>by
  show es=es.map fun e=>(e.1,e.2.km β);refine List.ext_getElem? fun i=>?_;rw[List.getElem?_map];cases he:es[i]? with
  |none=>rfl
  |some e=>simp[NT β (bV e (List.mem_of_getElem? he))]
 |p::l=>by
  show dc (GV es (Fj β l)) p.1 (p.2.km β)=(dc (GV es l) p.1 p.2).map fun e=>(e.1,e.2.km β);rw[Fv β bV l,Bw]
section
variable {c' cc:Nat} {ρ' Jc:Gh} {F':Nat→Prop} {h':ah} {β:Nat→Nat} {base:Nat} {S:Ft}
theorem cp.km (zM:∀k,k<c'→β k<cc) (eK:∀k,Jc (β k)=ρ' k) {l:List TV} {m:List Value} (H:cp c' ρ' F' h' base S l m):cp cc Jc F' h' base S (TV.fJ β l) m:=by
 induction H with
 |nil=>exact .nil
 |vr hv _ ih=>exact .vr (hv.km zM eK) ih
 |cl hv _ ih=>
  rename_i t v l m _;have:t.km β=t:=by
   cases hv with
   |fz hf _=>exact J7 β hf
   |own=>simp[TV.km]
  simp only[TV.fJ];rw[this];exact .cl hv ih
theorem gG.km (zM:∀k,k<c'→β k<cc) (eK:∀k,Jc (β k)=ρ' k) {kd:Nat} {l:List (Value×TV)} {m:List MapEntry} (H:gG c' ρ' F' h' base kd S l m):gG cc Jc F' h' base kd S (l.map fun e=>(e.1,e.2.km β)) m:=by
 induction H with
 |nil=>exact .nil
 |cons hk gB ha hv _ ih=>
  exact .cons hk gB ((xC β _).2.trans ha) (by rw[(xC β _).1];exact hv.km zM eK) ih
theorem OR.km {k:Nat} (zM:∀k,k<c'→β k<cc) (eK:∀k,Jc (β k)=ρ' k) {y:TO} (H:OR c' ρ' F' h' base k S y):OR cc Jc F' h' base (β k) S (y.km β):=by
 cases H with
 |cells hb hg ht hc=>exact .cells ((eK k).trans hb) hg ht (hc.km zM eK)
 |map hb hg hl hc bU=>exact .map ((eK k).trans hb) hg hl (fun i e e' q1 q2=>let⟨r1,r2,r3,r4⟩:=hc i e e' q1 q2;⟨r1,r2,r3,r4.tL r3⟩) bU
 |nil hb hz=>exact .nil ((eK k).trans hb) hz
 |arr hb hg hf ht dy hz hlen he fS hc hF=>exact .arr ((eK k).trans hb) hg hf ht dy hz hlen he fS (fun i j e t v q1 q2 q3=>(hc i j e t v q1 q2 q3).dm (fS e (List.mem_of_getElem? q1) t (List.mem_of_getElem? q2))) hF
 |fD hb hz=>exact .fD ((eK k).trans hb) hz
 |bZ hb hg hf ht dy hz hlen he bV jb hc=>
  refine .bZ ((eK k).trans hb) hg hf ht dy hz hlen he bV (fun p hp=>?_) (by rw[Bv β bV,←zN];exact hc.km zM eK);have key:∀op:List (Nat×List TV),p∈uM β op→∃q∈op,p.1=q.1∧p.2.length=q.2.length:=by
   intro op
   induction op with
   |nil=>intro h;simp[uM]at h
   |cons q l ih=>
    intro h;simp only[uM,List.mem_cons]at h;rcases h with rfl |h
    ·exact⟨q,List.mem_cons_self,rfl,fk β _⟩
    ·obtain⟨q',h1,h2⟩:=ih h;exact⟨q',List.mem_cons_of_mem _ h1,h2⟩
  obtain⟨q,h1,h2,h3⟩:=key _ hp;rw[h2,h3];exact jb q h1
 |dY hb hg bV hc bU=>exact .dY ((eK k).trans hb) hg bV (by rw[Fv β bV];exact hc.km zM eK) bU
 |fM hb hg=>exact .fM ((eK k).trans hb) hg
end
theorem rD {β:Nat→Nat} (zM:∀k k',β k=β k'→k=k'):∀{o:Ob} {n:Nat} {y:TO},look (Dw β o) n=some y→∃k y0,n=β k∧look o k=some y0∧y=y0.km β
 |[],n,y,h=>by cases h
 |p::l,n,y,h=>by
  simp only[Dw]at h;rw[aC]at h;split at h
  ·rename_i e;cases h;exact⟨p.1,p.2,e.symm,by rw[aC,if_pos rfl],rfl⟩
  ·rename_i e;obtain⟨k,y0,rfl,h2,h3⟩:=rD zM h;refine⟨k,y0,rfl,?_,h3⟩;rw[aC,if_neg (fun e2=>e (by rw[e2]))];exact h2
theorem lP:∀{ids:List (Option Nat)} {o:Ob} {n:Nat} {y:TO},look (ja ids o) n=some y→look o n=some y∧∀k:Nat,ids[k]? ≠some (some n)
 |[],o,n,y,h=>⟨h,fun k=>by simp⟩
 |none::l,o,n,y,h=>by
  obtain⟨h1,h2⟩:=lP (ids:=l) h;refine⟨h1,fun k=>?_⟩;cases k with
  |zero=>simp
  |succ k=>simpa using h2 k
 |some m::l,o,n,y,h=>by
  obtain⟨h1,h2⟩:=lP (ids:=l) h;rw[cZ]at h1;by_cases e:n=m
  ·rw[if_pos e]at h1;cases h1
  ·rw[if_neg e]at h1;refine⟨h1,fun k=>?_⟩;cases k with
   |zero=>simp;exact fun e2=>e e2.symm
   |succ k=>simpa using h2 k
theorem uW:∀{U:List Nat} {o:Ob} {n:Nat} {y:TO},look (sM U o) n=some y→look o n=some y∧n∉U
 |[],o,n,y,h=>⟨h,by simp⟩
 |m::l,o,n,y,h=>by
  obtain⟨h1,h2⟩:=uW (U:=l) h;rw[cZ]at h1;by_cases e:n=m
  ·rw[if_pos e]at h1;cases h1
  ·rw[if_neg e]at h1;exact⟨h1,by simp[e,h2]⟩
open Classical in
theorem Mem.merge (H:Mem X ρ F o c h) {S S1:Nat→Ft} {U:List Nat} {Ns:Nat→List Nat} (K0:MO X ρ F o c h S) {o0:Ob} (hi:gD c ids=true) (D:Told X ρ F o h S ids U o0 S1 Ns) {ρ':Gh} {F':Nat→Prop} {o':Ob} {c':Nat} {h':ah}
 (K:Mem (zL X.base (eM ids (DB o0) ρ) F o0 ids.length h S1) ρ' F' o' c' h'):
 Mem X (ou ids c ρ ρ') F' (Dw (back ids c) o'++sM U (ja ids o)) (c+c') h'∧(∀t v,VR c ρ F h t v→VR (c+c') (ou ids c ρ ρ') F' h' t v)∧(∀t v,VR c' ρ' F' h' t v→VR (c+c') (ou ids c ρ ρ') F' h' (t.km (back ids c)) v)∧
  ∀n y,look o n=some y→(∀k:Nat,ids[k]? ≠some (some n))→n∉U→∀x∈cQ (S n),¬kp S1 o0 x:=by
 obtain⟨S',KO⟩:=K.ex;have hA:∀n l,n<c→ou ids c ρ ρ' n=some l→ρ n=some l:=fun n l hn hl=>by
  by_cases hx:∃k:Nat,ids[k]? =some (some n)
  ·obtain⟨k,hk⟩:=hx;rw[DD hi hk]at hl;have:=K.wO.2.1 k l (pk hk) hl;simpa[zL,eM,hk]using this
  ·rwa [tN (fun k hk=>hx ⟨k,hk⟩) hn]at hl
 have hB:∀n b,ρ n=some (.cX b)→ou ids c ρ ρ' n=some (.cX b):=fun n b hb=>by
  by_cases hx:∃k:Nat,ids[k]? =some (some n)
  ·obtain⟨k,hk⟩:=hx;rw[DD hi hk];exact K.wO.2.2 k b (pk hk) (by simpa[zL,eM,hk]using hb)
  ·rw[tN (fun k hk=>hx ⟨k,hk⟩) (H.names _ _ hb)];exact hb
 have zM:=fun k (hk:k<c')=>NS hi hk;have eK:=fun k=>J6 (ρ:=ρ) (ρ':=ρ') hi k;have cE:∀b cs,F b→h.rd b=some cs→h'.rd b=some cs:=fun b cs hb hr=>by rw[K.my.cE b hb];exact hr
 have oI:∀b,F b→F' b:=fun b hb=>K.F0 b hb;have hm:∀t v,VR c ρ F h t v→VR (c+c') (ou ids c ρ ρ') F' h' t v:=fun t v=>VR.mono om hA hB oI cE;have eY:h.size≤h'.size:=K.my.size
 -- families that the call may have changed
 have hM:∀x,kp S1 o0 x→∃(u:Nat) (y:TO),((∃k:Nat,ids[k]? =some (some u))∨u∈U)∧look o u=some y∧x∈cQ (S u):=by
  rintro x ⟨k,y,hl,hh⟩;obtain⟨u,h1,h2⟩:=(D.mem hl).1 hh;obtain⟨y',h3⟩:=D.fy _ _ _ hl h1;exact⟨u,y',(D.VF _ _ _ hl h1).imp (fun h=>⟨_,h⟩) id,h3,h2⟩
 have Za:∀x,kp S1 o0 x→X.M x∨X.h0.size≤x:=fun x hx=>by
  obtain⟨u,y,_,h2,h3⟩:=hM x hx;exact(K0.eD u y x h2 h3).2.2
 have same:∀b,b<h.size→¬kp S1 o0 (hd h b)→h'.get b=h.get b:=fun b hb hx=>K.my.bd b hb hx;have out:∀n y,look o n=some y→(∀k:Nat,ids[k]? ≠some (some n))→n∉U→∀x∈cQ (S n),¬kp S1 o0 x:=by
  intro n y hl h1 h2 x hx hy;obtain⟨u,y',q1,q2,q3⟩:=hM x hy;have:=K0.eJ n u y y' x hl q2 hx q3;subst this;rcases q1 with⟨k,q1⟩|q1
  ·exact h1 k q1
  ·exact h2 q1
 let S2:Nat→Ft:=fun n=>if hx:∃k y0,n=back ids c k∧look o' k=some y0 then S' (Classical.choose hx)else S n
 have s2a:∀k y0,look o' k=some y0→S2 (back ids c k)=S' k:=fun k y0 hl=>by
  have hx:∃k' y0,back ids c k=back ids c k'∧look o' k'=some y0:=⟨k,y0,rfl,hl⟩;simp only[S2];rw[dif_pos hx];obtain⟨_,h1,_⟩:=Classical.choose_spec hx;rw[uU hi h1.symm]
 have jJ:∀n y,look (Dw (back ids c) o'++sM U (ja ids o)) n=some y→
  (∃k y0,n=back ids c k∧look o' k=some y0∧y=y0.km (back ids c)∧S2 n=S' k)∨
  (look o n=some y∧(∀k:Nat,ids[k]? ≠some (some n))∧n∉U∧S2 n=S n):=by
  intro n y hl;rw[iA]at hl;split at hl
  ·rename_i y1 h1;cases hl;obtain⟨k,y0,rfl,h2,rfl⟩:=rD (fun k k'=>uU hi) h1;exact .inl ⟨k,y0,rfl,h2,rfl,s2a k y0 h2⟩
  ·rename_i Az;obtain⟨h1,h2⟩:=uW hl;obtain⟨h3,h4⟩:=lP h1;refine .inr ⟨h3,h4,h2,?_⟩;simp only[S2];rw[dif_neg];rintro⟨k,y0,rfl,hk⟩;have CT:=H.lt h3;unfold back at h4 CT;split at CT
   ·rename_i m hm;rw[hm]at h4;exact h4 k hm
   ·omega
 have old:∀n y,look o n=some y→(∀k:Nat,ids[k]? ≠some (some n))→n∉U→OR (c+c') (ou ids c ρ ρ') F' h' X.base n (S n) y:=fun n y hl h1 h2=>
  (K0.bN n y hl).bd (T:=kp S1 o0) H.wf same (out n y hl h1 h2) oI cE hm (tN h1 (H.lt hl))
 -- a family of the call's is none of the others
 have apart:∀k y0 x,look o' k=some y0→x∈cQ (S' k)→kp S1 o0 x∨h.size≤x:=fun k y0 x hl hh=>(KO.eD k y0 x hl hh).2.2;refine⟨⟨⟨S2,fun n y hl=>?_,fun n y hl=>?_,fun n1 n2 y1 y2 x h1 h2 k1 k2=>?_,fun n y x hl hh=>?_,fun n y x b hl hs hb=>?_⟩,fun n l hn=>?_,fun b hb=>K.frozen b hb,fun b hb=>oI b (H.F0 b hb),K.wf,⟨Nat.le_trans H.my.size eY,fun b hb hMb=>?_,fun b hb=>?_,fun b hb=>?_⟩,Nat.le_trans H.lq eY,fun b hb=>?_,?_,fun k l hk hl=>?_,fun k b hk hb=>?_⟩,hm,fun t v=>VR.km zM eK,out⟩
 ·rcases jJ n y hl with⟨k,y0,rfl,h1,rfl,h2⟩|⟨h1,h2,h3,h4⟩
  ·rw[h2];exact(KO.bN k y0 h1).km zM eK
  ·rw[h4];exact old n y h1 h2 h3
 ·rcases jJ n y hl with⟨k,y0,rfl,h1,rfl,h2⟩|⟨h1,h2,h3,h4⟩
  ·rw[h2];exact KO.AD k y0 h1
  ·rw[h4];exact K0.AD n y h1
 ·rcases jJ n1 y1 h1 with⟨k,z1,rfl,a1,_,e1⟩|⟨a1,f1,g1,e1⟩<;>rcases jJ n2 y2 h2 with⟨k',z2,rfl,a2,_,e2⟩|⟨a2,f2,g2,e2⟩
  ·rw[e1]at k1;rw[e2]at k2;rw[KO.eJ k k' z1 z2 x a1 a2 k1 k2]
  ·rw[e1]at k1;rw[e2]at k2;rcases apart _ _ _ a1 k1 with h3|h3
   ·exact absurd h3 (out _ _ a2 f2 g2 x k2)
   ·have:=(K0.eD _ _ _ a2 k2).2.1;omega
  ·rw[e1]at k1;rw[e2]at k2;rcases apart _ _ _ a2 k2 with h3|h3
   ·exact absurd h3 (out _ _ a1 f1 g1 x k1)
   ·have:=(K0.eD _ _ _ a1 k1).2.1;omega
  ·rw[e1]at k1;rw[e2]at k2;exact K0.eJ _ _ _ _ x a1 a2 k1 k2
 ·rcases jJ n y hl with⟨k,z1,rfl,a1,_,e1⟩|⟨a1,_,_,e1⟩
  ·rw[e1]at hh;obtain⟨q1,q2,q3⟩:=KO.eD _ _ _ a1 hh;refine⟨q1,q2,?_⟩;rcases q3 with q3|q3
   ·exact Za x q3
   ·exact .inr (Nat.le_trans H.my.size q3)
  ·rw[e1]at hh;obtain⟨q1,q2,q3⟩:=K0.eD _ _ _ a1 hh;exact⟨q1,Nat.lt_of_lt_of_le q2 eY,q3⟩
 ·rcases jJ n y hl with⟨k,z1,rfl,a1,e0,e1⟩|⟨a1,f1,g1,e1⟩
  ·rw[e1]at hs;exact KO.apart k z1 x b a1 hs hb
  ·rw[e1]at hs;have I7:=(K0.eD _ _ _ a1 (dw hs)).2.1;intro e;rcases K.zH b hb with h3|h3|h3
   ·have AE:F b:=h3;rw[K.my.cQ b (H.Fo AE)]at e;exact K0.apart _ _ _ b a1 hs AE e
   ·rw[e]at h3;exact out _ _ a1 f1 g1 x (dw hs) h3
   ·rw[e]at h3;have:h.size≤x:=h3;omega
 ·by_cases hx:∃k:Nat,ids[k]? =some (some n)
  ·obtain⟨k,hk⟩:=hx;have:=jy hi hk;omega
  ·rcases Nat.lt_or_ge n c with h1|h1
   ·omega
   ·have hnk:¬∃m:Nat,ids[n - c]? =some (some m):=fun⟨m,hm⟩=>by
     simp only[ou]at hn;rw[dif_neg hx,if_neg om,if_pos ⟨m,hm⟩]at hn;cases hn
    simp only[ou]at hn;rw[dif_neg hx,if_neg om,if_neg hnk]at hn;have:=K.names _ _ hn;omega
 ·have h1:=H.my.bd b hb hMb;have h2:=H.my.cQ b hb;rw[same b (Nat.lt_of_lt_of_le hb H.my.size) ?_,h1];intro hx;rw[h2]at hx;rcases Za _ hx with k|k
  ·exact hMb k
  ·have:=H.wf.Fm b;rw[h2]at this;omega
 ·have:=H.F0 b hb;exact(K.my.cE b this).trans (H.my.cE b hb)
 ·exact(K.my.cQ b (Nat.lt_of_lt_of_le hb H.my.size)).trans (H.my.cQ b hb)
 ·rcases K.zH b hb with h3|h3|h3
  ·have AE:F b:=h3;rw[K.my.cQ b (H.Fo AE)];exact H.zH b AE
  ·exact .inr (Za _ h3)
  ·exact .inr (.inr (Nat.le_trans H.my.size h3))
 ·have:=H.wO.1;omega
 ·exact H.wO.2.1 k l hk (hA k l (Nat.lt_of_lt_of_le hk H.wO.1) hl)
 ·exact hB k b (H.wO.2.2 k b hk hb)
end
end Go.M
namespace Go.M
open Go
def Bx (run run':wE):Prop:=∀c f h r,run c f h=some r→run' c f h=some r
def uX (cf Nk:eT):Prop:=∀g a h r,cf g a h=some r→Nk g a h=some r
def tO (rf Nl:dW):Prop:=∀l a h r,rf l a h=some r→Nl l a h=some r
section
variable {E:Env} {base:Nat}
theorem nU {run run':wE} (H:Bx run run'):uX (fR E base run) (fR E base run'):=by
 intro g a h r hr;unfold fR at hr ⊢;simp only[Option.bind_eq_some_iff]at hr ⊢;obtain⟨fn,h1,h2⟩:=hr;refine⟨fn,h1,?_⟩;split at h2
 ·rename_i q hq;simpa[hq]using h2
 ·rename_i hq;simp only[Option.bind_eq_some_iff,aj]at h2 ⊢;obtain⟨c,h3,h4,h5⟩:=h2;refine⟨c,h3,h4,?_⟩;split at h5
  ·rename_i f' h' hx;rw[H _ _ _ _ hx];exact h5
  ·rename_i f' h' hx;rw[H _ _ _ _ hx];exact h5
  ·cases h5
theorem uY {run run':wE} (H:Bx run run'):tO (fN base run) (fN base run'):=by
 intro l a h r hr;unfold fN at hr ⊢;rw[aj]at hr ⊢;refine⟨hr.1,?_⟩;obtain⟨_,hr⟩:=hr;split at hr
 ·rename_i p f ps gO body hg;rw[aj]at hr ⊢;refine⟨hr.1,?_⟩;obtain⟨_,hr⟩:=hr;split at hr
  ·rename_i f1 h1 hx;rw[H _ _ _ _ hx];simp only
   split at hr
   ·rename_i p1 f0 jS oq iR kG;simp only[Option.bind_eq_some_iff]at hr ⊢;obtain⟨q,h2,h3⟩:=hr;exact⟨q,H _ _ _ _ h2,h3⟩
   ·cases hr
  ·cases hr
 ·cases hr
theorem By {cf Nk:eT} {rf Nl:dW} (H:uX cf Nk) (G:tO rf Nl) {o:Oper} {f:AF} {h:ah} {r:QY} (hr:dR E base cf rf o f h=some r):dR E base Nk Nl o f h=some r:=by
 unfold dR at hr ⊢;cases hv:aB E f o with
 |some v=>rw[hv]at hr;exact hr
 |none=>
  rw[hv]at hr;simp only at hr ⊢;cases hq:bt E f o with
  |some q=>rw[hq]at hr;exact hr
  |none=>
   rw[hq]at hr;simp only at hr ⊢;cases hm:aV E f o with
   |some m=>rw[hm]at hr;exact hr
   |none=>
    rw[hm]at hr;simp only at hr ⊢;cases he:cH E base f o h with
    |none=>rw[he]at hr;cases hr
    |some p=>
     rw[he]at hr;obtain⟨x,h'⟩:=p;cases x with
     |val v=>exact hr
     |enter g args=>
      simp only[Option.bind_eq_some_iff]at hr ⊢;obtain⟨q,h1,h2⟩:=hr;exact⟨q,H _ _ _ _ h1,h2⟩
     |round l args=>
      simp only[Option.bind_eq_some_iff]at hr ⊢;obtain⟨q,h1,h2⟩:=hr;exact⟨q,G _ _ _ _ h1,h2⟩
theorem zO {cf Nk:eT} {rf Nl:dW} (H:uX cf Nk) (G:tO rf Nl) {ops:List Oper}:∀{rest:List Oper} {f:AF} {h:ah} {r:AF×ah},te E base cf rf ops rest f h=some r→te E base Nk Nl ops rest f h=some r
 |[],f,h,r,hr=>hr
 |o::rest,f,h,r,hr=>by
  unfold te at hr ⊢;split at hr
  ·simp only[Option.bind_eq_some_iff]at hr ⊢;obtain⟨q,h1,h2⟩:=hr;exact⟨q,By H G h1,zO H G h2⟩
  ·exact zO H G hr
theorem uZ {cf Nk:eT} {rf Nl:dW} (H:uX cf Nk) (G:tO rf Nl) {ops:List Oper}:∀{rest:List Oper} {f:AF} {h:ah} {r:AF×ah×List dD},jP E base cf rf ops rest f h=some r→jP E base Nk Nl ops rest f h=some r
 |[],f,h,r,hr=>hr
 |o::rest,f,h,r,hr=>by
  unfold jP at hr ⊢;split at hr
  ·simp only[Option.bind_eq_some_iff]at hr ⊢;obtain⟨q,h1,q2,h2,h3⟩:=hr;exact⟨q,By H G h1,q2,uZ H G h2,h3⟩
  ·simp only[Option.bind_eq_some_iff]at hr ⊢;obtain⟨q2,h2,h3⟩:=hr;exact⟨q2,uZ H G h2,h3⟩
theorem DE {run run':wE} (H:Bx run run') {ops:Array Oper} {draw:Bool} {f:AF} {h:ah} {r:Ex×AF×ah} (hr:jT E base run ops draw f h=some r):jT E base run' ops draw f h=some r:=by
 unfold jT at hr ⊢;split at hr
 ·simp only[Option.bind_eq_some_iff]at hr ⊢;obtain⟨q,h1,h2⟩:=hr;exact⟨q,zO (nU H) (uY H) h1,h2⟩
 ·simp only[Option.bind_eq_some_iff,aj]at hr ⊢;obtain⟨h0,q,h1,h2⟩:=hr;exact⟨h0,q,uZ (nU H) (uY H) h1,h2⟩
theorem Bz:∀{n m:Nat},n≤m→Bx (aS E base n) (aS E base m)
 |0,m,_=>fun c f h r hr=>by simp[aS]at hr
 |n+1,0,h=>by omega
 |n+1,m+1,Ul=>by
  have ih:Bx (aS E base n) (aS E base m):=Bz om;intro c f h r hr;unfold aS at hr ⊢;cases c with
  |skip=>exact hr
  |region id ops draw=>exact DE ih hr
  |seq a b=>
   simp only at hr ⊢;cases hx:aS E base n a f h with
   |none=>rw[hx]at hr;cases hr
   |some q=>
    rw[hx]at hr;rw[ih _ _ _ _ hx];obtain⟨ex,f',h'⟩:=q;cases ex with
    |normal=>exact ih _ _ _ _ hr
    |exit id=>exact hr
    |ret=>exact hr
  |cond c t e=>
   simp only[Option.bind_eq_some_iff]at hr ⊢;obtain⟨v,h1,b,h2,h3⟩:=hr;refine⟨v,h1,b,h2,?_⟩;cases b<;>exact ih _ _ _ _ h3
  |block id b=>
   simp only at hr ⊢;cases hx:aS E base n b f h with
   |none=>rw[hx]at hr;cases hr
   |some q=>rw[hx]at hr;rw[ih _ _ _ _ hx];exact hr
  |loop b=>
   simp only at hr ⊢;cases hx:aS E base n b f h with
   |none=>rw[hx]at hr;cases hr
   |some q=>
    rw[hx]at hr;rw[ih _ _ _ _ hx];obtain⟨ex,f',h'⟩:=q;cases ex with
    |normal=>exact ih _ _ _ _ hr
    |exit id=>exact hr
    |ret=>exact hr
  |exit id=>exact hr
  |ret=>exact hr
  |rangeFunc g ps gO body=>
   simp only[Option.bind_eq_some_iff,aj]at hr ⊢;obtain⟨g',h1,h2,h3⟩:=hr;refine⟨g',h1,h2,?_⟩;split at h3
   ·simp only[Option.bind_eq_some_iff]at h3 ⊢;obtain⟨q,h4,h5⟩:=h3;refine⟨q,nU ih _ _ _ _ h4,?_⟩;split at h5
    ·rw[aj]at h5 ⊢;refine⟨h5.1,?_⟩;obtain⟨_,h5⟩:=h5;split at h5
     ·exact h5
     ·exact ih _ _ _ _ h5
    ·cases h5
   ·cases h3
  |_=>exact hr
theorem u3 {n m:Nat} (h:n≤m):uX (e6 E base n) (e6 E base m):=nU (Bz h)
end
end Go.M
