/-
  Part 6 of the library that the proof leans on.
-/
import Derived.Test.YtpkdpgcpmeibpaaGreatDoorL5
namespace Go.M
open Go
section
variable {X:Cx} {ρ ρ':Gh} {F:Nat→Prop} {o o':Ob} {c c':Nat} {h h':ab}
theorem ext_get {f bd t0 gX:Nat} {c0 cs:List Value} (hf:h.get f=some (.cells c0 f t0 gX)) (b:Nat):(fp h f bd cs).get b=if b=h.size then some (.cells cs f 0 0)else if b=f then some (.cells c0 f h.size bd)else h.get b:=by
 unfold fp;rw[ab.au,fx,bW,hf]
theorem tZ {f bd:Nat} {cs:List Value}:(fp h f bd cs).size=h.size+1:=by unfold fp;rw[ab.size_push,fx]
theorem VJ (W:Wf h) {f bd t0 gX:Nat} {c0 cs:List Value} (hf:h.get f=some (.cells c0 f t0 gX)):Wf (fp h f bd cs):=by
 have u4:=W.lt hf;refine⟨fun b hb=>?_,fun b cs' f' t th hg=>?_⟩
 ·rw[tZ]at hb;rw[ext_get hf,if_neg om,if_neg om];exact W.high b om
 ·rw[ext_get hf]at hg;split at hg
  ·cases hg;omega
  ·split at hg
   ·cases hg;omega
   ·exact W.le _ _ _ _ _ hg
theorem VK {f bd t0 gX:Nat} {c0 cs:List Value} (hf:h.get f=some (.cells c0 f t0 gX)) {b:Nat} (hb:b<h.size):hd (fp h f bd cs) b=hd h b:=by
 unfold hd;rw[ext_get hf,if_neg om];by_cases e:b=f
 ·subst e;rw[if_pos rfl,hf]
 ·rw[if_neg e]
theorem Oo (W:Wf h) {f t0 bd:Nat} {c0 cs:List Value} (hf:h.get f=some (.cells c0 f t0 bd)) {b:Nat} {l:List Value} (hr:h.rd b=some l):(fp h f bd cs).rd b=some l:=by
 obtain⟨r,h1,h2,h3⟩:=rd_some hr;obtain⟨f1,t1,AA,hg⟩:=dV h3;obtain⟨cr,qQ⟩:=b9 h1;obtain⟨uY,q1,q2,yc⟩:=ef h1;rw[hg]at yc;cases yc;have hb:=W.lt hg;have u4:=W.lt qQ;have rH:∃t th,(fp h f bd cs).get b=some (.cells l r.1 t th):=by
  rw[ext_get hf,if_neg om];by_cases e:b=f
  ·rw[if_pos e];subst e;rw[hg]at hf;cases hf;exact⟨_,_,rfl⟩
  ·rw[if_neg e,hg];exact⟨_,_,rfl⟩
 obtain⟨t,th,rH⟩:=rH;by_cases e:r.1=f
 ·have wq:(fp h f bd cs).get r.1=some (.cells cr r.1 h.size r.2.2):=by
   have hf2:=hf;rw[←e,qQ]at hf2;simp only[Option.some.injEq,fH.cells.injEq]at hf2;rw[ext_get hf,if_neg om,if_pos e,hf2.1,hf2.2.2.2,e]
  exact eW (cG rH wq) h2 (aT rH)
 ·have wq:(fp h f bd cs).get r.1=some (.cells cr r.1 r.2.1 r.2.2):=by rw[ext_get hf,if_neg om,if_neg e,qQ]
  exact eW (cG rH wq) h2 (aT rH)
theorem eB {S:Ft} {x:Nat} {w:Bool} (h:(x,w)∈S):x∈dS S:=List.mem_map.2 ⟨_,h,rfl⟩
theorem j9 {f:Nat} (W:Wf h) (same:∀x,x<h.size→hd h x≠f→h'.get x=h.get x) {b:Nat} {cs:List Value} (bH:hd h b≠f) (hr:h.rd b=some cs):h'.rd b=some cs:=by
 obtain⟨r,h1,h2,h3⟩:=rd_some hr;obtain⟨f1,t1,AA,hg⟩:=dV h3;obtain⟨cr,qQ⟩:=b9 h1;obtain⟨uY,q1,q2,yc⟩:=ef h1;rw[hg]at yc;cases yc;rw[cu hg]at bH;have a1:=same b (W.lt hg) (by rw[cu hg];exact bH);have a2:=same r.1 (W.lt qQ) (by rw[cu qQ];exact bH);exact eW (cG (a1.trans hg) (a2.trans qQ)) h2 (aT (a1.trans hg))
theorem Mem.Zf (H:Mem X ρ F o c h) {S:Nat→Ft} (K:MO X ρ F o c h S) {m z l len':Nat} {w:Bool} (dv:Nat) {y y':TO} {Sq:Ft} (hl:look o m=some y) {b f t0 gX bd:Nat} {cs cs':List Value} (hS:S m=(f,w)::Sq) (hb:ρ m=some (.arr b z l)) (hg:h.get b=some (.cells cs f t0 gX))
 (hf:h.dU b=some (f,b,bd)) (_:bd≤b) (NP:dv≤h.size) (hw9:dv=bd∨w=true):
 let h':=fp h f dv cs'
 let ρ':=cH (cH ρ m none) c (some (.arr h.size z len'))
 let F':=fun x=>F x∨(w=false∧x=h.size)
 (xN:(∀t v,VR c ρ F h t v→VR (c+1) ρ' F' h' t v)→(∀b,b<h.size→¬(hd h b=f)→h'.get b=h.get b)→(∀b cs,F b→h.rd b=some cs→h'.rd b=some cs)→h'.get h.size=some (.cells cs' f 0 0)→h'.dU h.size=some (f,h.size,dv)→OR (c+1) ρ' F' h' X.base c ((f,w)::Sq) y')→
 Mem X ρ' F' ((c,y')::fM o m) (c+1) h'∧∀t v,VR c ρ F h t v→VR (c+1) ρ' F' h' t v:=by
 intro h' ρ' F' xN;have hm:=H.lt hl;obtain⟨c0,cL⟩:=b9 hf;simp only at cL;have u4:=H.wf.lt cL;have AH:f∈dS (S m):=by rw[hS];exact List.mem_cons_self
 have rW:=K.fP m _ f hl AH;have J3:=K.EG m _ hl;have fQ:∀n,n≠m→n≠c→ρ' n=ρ n:=fun n h1 h2=>by simp only[ρ'];rw[bN _ _ h2,bN _ _ h1]
 have hA:∀n l,n<c→ρ' n=some l→ρ n=some l:=fun n l hn h1=>by
  by_cases e:n=m
  ·subst e;simp only[ρ']at h1;rw[bN _ _ om,aP]at h1;cases h1
  ·rwa [fQ n e om]at h1
 have hB:∀n b,ρ n=some (.dw b)→ρ' n=some (.dw b):=fun n b' hn=>by
  have:=H.names _ _ hn;by_cases e:n=m
  ·subst e;rw[hb]at hn;cases hn
  ·rwa [fQ n e om]
 have rV:∀b,F b→F' b:=fun b hb=>.inl hb;have Zg:∀b,b<h.size→hd h b≠f→h'.get b=h.get b:=fun b' bV hx=>by
  simp only[h'];rw[ext_get cL,if_neg om,if_neg];intro e;subst e;exact hx (cu cL)
 have dn:∀b cs,F b→h.rd b=some cs→h'.rd b=some cs:=fun b cs hb hr=>by
  rcases hw9 with e|e
  ·simp only[h'];rw[e];exact Oo H.wf cL hr
  ·exact j9 H.wf Zg (K.apart m _ f b hl (by rw[hS,e];exact List.mem_cons_self) hb) hr
 have Fw:∀t v,VR c ρ F h t v→VR (c+1) ρ' F' h' t v:=fun t v=>VR.mono om hA hB rV dn;have vi:h'.get h.size=some (.cells cs' f 0 0):=by simp only[h'];rw[ext_get cL,if_pos rfl]
 have VM:h'.get f=some (.cells c0 f h.size dv):=by simp only[h'];rw[ext_get cL,if_neg om,if_pos rfl]
 have AT:=H.wf.lt hg;have acw:(h'.rd h.size)=some cs':=eW (cG vi VM) (by simp only;omega) (aT vi);have same:∀b,b<h.size→¬(hd h b=f)→h'.get b=h.get b:=fun b' bV hx=>by
  simp only[h'];rw[ext_get cL,if_neg om,if_neg];intro e;subst e;exact hx (cu cL)
 have wF:∀n y1,n≠c→look ((c,y')::fM o m) n=some y1→n≠m∧look o n=some y1:=fun n y1 bH hy=>by
  rw[aS,if_neg (fun e=>bH e.symm),dM]at hy;by_cases e:n=m
  ·rw[if_pos e]at hy;cases hy
  ·rw[if_neg e]at hy;exact⟨e,hy⟩
 refine H.change K (fun x=>x=f) c y' ((f,w)::Sq) (by simp only[h'];rw[tZ];omega) (VJ H.wf cL) (fun x hx=>by subst hx;exact rW.2.2)
  same dn (fun b' bV=>VK cL bV) rV (fun b' bV hn=>?_) om hA hB (fun n l hn=>?_) (fun n y1 bH hy=>?_) (fun y1 hy=>?_) (xN Fw same dn vi (cG vi VM)) (by rw[←hS];exact J3) (fun x hx=>?_) fun x b' hx bV=>?_
 ·rcases bV with bV|⟨hw,rfl⟩
  ·exact absurd bV hn
  ·refine⟨by rw[acw];rfl,fun n y1 x bH hy hx e=>?_,fun x hx e=>?_,by rw[cu vi];exact rW.2.2⟩
   ·rw[cu vi]at e;subst e;obtain⟨h1,h2⟩:=wF n y1 bH hy;exact h1 (K.fO n m y1 _ _ h2 hl (eB hx) AH)
   ·rw[cu vi]at e;subst e;rw[hS]at J3;simp only[dS,List.map_cons,List.nodup_cons]at J3;rcases List.mem_cons.1 hx with e|hx
    ·simp only[Prod.mk.injEq]at e;rw[hw]at e;exact absurd e.2 (by simp)
    ·exact J3.1 (List.mem_map.2 ⟨_,hx,rfl⟩)
 ·by_cases e:n=c
  ·omega
  ·by_cases e2:n=m
   ·omega
   ·rw[fQ n e2 e]at hn;have:=H.names _ _ hn;omega
 ·obtain⟨h1,h2⟩:=wF n y1 bH hy;refine⟨h2,fQ n h1 bH,fun x hx e=>?_⟩;subst e;exact h1 (K.fO n m y1 _ x h2 hl hx AH)
 ·rw[aS,if_pos rfl,Option.some.injEq]at hy;exact hy.symm
 ·rw[←hS]at hx;obtain⟨q1,q2,q3⟩:=K.fP m _ x hl hx;refine⟨q1,by simp only[h'];rw[tZ];omega,q3,fun n y1 bH hy hh=>?_⟩;obtain⟨h1,h2⟩:=wF n y1 bH hy;exact h1 (K.fO n m y1 _ x h2 hl hh hx)
 ·rw[←hS]at hx;exact K.apart m _ x b' hl hx bV
theorem R3 {b f t0 gX t1 AA:Nat} {c0 c1:List Value} (hg:h.get b=some (.cells c0 f t0 gX)) (hf:h.get f=some (.cells c1 f t1 AA)) (cs':List Value) (x:Nat):
 ((h.setCells b cs').cE f b b).get x=if x=f then some (.cells (if f=b then cs' else c1) f b b)else if x=b then some (.cells cs' f t0 gX)else h.get x:=by
 rw[bW,cB,cB,hg];by_cases e:f=b
 ·subst e;simp
 ·simp[e,hf]
theorem Fx (b f:Nat) (cs':List Value):((h.setCells b cs').cE f b b).size=h.size:=by rw[fx,ig]
theorem J4 {base b f bd t0 gX:Nat} {c0 cs':List Value} (_:h.get b=some (.cells c0 f t0 gX)) (hf:h.dU b=some (f,b,bd)) (h1:base≤b) (h2:base≤f):
 h.wr base b cs'=some ((h.setCells b cs').cE f b b):=by
 unfold ab.wr;rw[hf];simp[bO,aW.2 h1,aW.2 h2]
structure acx (h:ab) (b f:Nat) (cs':List Value) (h':ab):Prop where
 size:h'.size=h.size
 wf:Wf h'
 self:∃t th,h'.get b=some (.cells cs' f t th)
 dU:h'.dU b=some (f,b,b)
 same:∀x,x<h.size→hd h x≠f→h'.get x=h.get x
 dS:∀x,hd h' x=hd h x
theorem Dv (W:Wf h) {b f bd t0 gX:Nat} {c0 cs':List Value} (hg:h.get b=some (.cells c0 f t0 gX)) (hf:h.dU b=some (f,b,bd)):acx h b f cs' ((h.setCells b cs').cE f b b):=by
 obtain⟨cr,cL⟩:=b9 hf;simp only at cL;have hb:=W.lt hg;have u4:=W.lt cL;have hle:=W.le _ _ _ _ _ hg;have get:=fun x=>R3 hg cL cs' x;have VM:((h.setCells b cs').cE f b b).get f=some (.cells (if f=b then cs' else cr) f b b):=by
  rw[get,if_pos rfl]
 have rH:∃t th,((h.setCells b cs').cE f b b).get b=some (.cells cs' f t th):=by
  by_cases e:b=f
  ·subst e;exact⟨b,b,by rw[VM,if_pos rfl]⟩
  ·rw[get,if_neg e,if_pos rfl];exact⟨_,_,rfl⟩
 obtain⟨t,th,rH⟩:=rH;have Dw:∀x,x≠f→x≠b→((h.setCells b cs').cE f b b).get x=h.get x:=fun x h1 h2=>by rw[get,if_neg h1,if_neg h2]
 refine⟨Fx _ _ _,⟨fun x hx=>?_,fun x uY f1 t1 AA hx=>?_⟩,⟨t,th,rH⟩,cG rH VM,fun x hx bH=>?_,fun x=>?_⟩
 ·rw[Fx]at hx;rw[Dw x om om];exact W.high x hx
 ·by_cases e1:x=f
  ·subst e1;rw[VM]at hx;cases hx;exact Nat.le_refl _
  ·by_cases e2:x=b
   ·subst e2;rw[rH]at hx;cases hx;exact hle
   ·rw[Dw x e1 e2]at hx;exact W.le _ _ _ _ _ hx
 ·refine Dw x (fun e=>?_) (fun e=>?_)
  ·subst e;exact bH (cu cL)
  ·subst e;exact bH (cu hg)
 ·by_cases e1:x=f
  ·subst e1;rw[cu VM,cu cL]
  ·by_cases e2:x=b
   ·subst e2;rw[cu rH,cu hg]
   ·unfold hd;rw[Dw x e1 e2]
theorem Mem.set (H:Mem X ρ F o c h) {S:Nat→Ft} (K:MO X ρ F o c h S) {m:Nat} {y y':TO} {S0:Ft} (hl:look o m=some y) {f:Nat} (hf:(f,true)∈S m) (nv:∀p∈S0,p∈S m) (AG:(dS S0).Nodup) (gB:h'.size=h.size) (lC:Wf h')
 (same:∀x,x<h.size→hd h x≠f→h'.get x=h.get x) (VO:∀x,hd h' x=hd h x)
 (xN:(∀t v,VR c ρ F h t v→VR c ρ F h' t v)→(∀b cs,F b→h.rd b=some cs→h'.rd b=some cs)→OR c ρ F h' X.base m S0 y'):
 Mem X ρ F (fq o m y') c h'∧∀t v,VR c ρ F h t v→VR c ρ F h' t v:=by
 have rW:=K.fP m y f hl (eB hf);have dn:∀b cs,F b→h.rd b=some cs→h'.rd b=some cs:=fun b cs hb hr=>j9 H.wf same (K.apart m y f b hl hf hb) hr;have Fw:∀t v,VR c ρ F h t v→VR c ρ F h' t v:=fun t v=>VR.mono (Nat.le_refl _) (fun _ _ _ hx=>hx) (fun _ _ hx=>hx) (fun _ hb=>hb) dn;have NH:∀x∈dS S0,x∈dS (S m):=fun x hx=>by
  obtain⟨p,hp,rfl⟩:=List.mem_map.1 hx;exact List.mem_map.2 ⟨p,nv p hp,rfl⟩
 have nS:∀n y1,n≠m→look (fq o m y') n=some y1→look o n=some y1:=fun n y1 bH hy=>by rwa [eJ,if_neg bH]at hy
 refine H.change K (fun x=>x=f) m y' S0 om lC (fun x hx=>by subst hx;exact rW.2.2) (fun b hb hx=>same b hb hx) dn (fun b _=>VO b) (fun _ hb=>hb) (fun _ hb hn=>absurd hb hn) (Nat.le_refl _) (fun _ _ _ hx=>hx) (fun _ _ hx=>hx) H.names
  (fun n y1 bH hy=>?_) (fun y1 hy=>?_) (xN Fw dn) AG (fun x hx=>?_) fun x b hx hb=>K.apart m y x b hl (nv _ hx) hb
 ·refine⟨nS n y1 bH hy,rfl,fun x hx e=>?_⟩;subst e;exact bH (K.fO n m y1 y x (nS n y1 bH hy) hl hx (eB hf))
 ·rw[eJ,if_pos rfl,hl]at hy;simp at hy;exact hy.symm
 ·obtain⟨q1,q2,q3⟩:=K.fP m y x hl (NH x hx);exact⟨q1,om,q3,fun n y1 bH hy hh=>bH (K.fO n m y1 y x (nS n y1 bH hy) hl hh (NH x hx))⟩
def pI (ρ:Gh) (c:Nat) (ls:List Loc):Gh:=fun n=>if n<c then ρ n else ls[n - c]?
theorem fR (ρ:Gh) {c n:Nat} (ls:List Loc) (h:n<c):pI ρ c ls n=ρ n:=if_pos h
theorem ua (ρ:Gh) (c i:Nat) (ls:List Loc):pI ρ c ls (c+i)=ls[i]? :=by unfold pI;rw[if_neg om];congr 1;omega
theorem vn {base:Nat} {Ss:List Ft} {new:List (Nat×TO)} {ls:List Loc}:∀{k:Nat},Fu F h base k Ss new ls→∀n,look new n=if n<k then none else(new[n - k]?).map (·.2):=by
 intro k N;have key:∀(new:List (Nat×TO)) (k:Nat),(∀(i:Nat) p,new[i]? =some p→p.1=k+i)→∀n,look new n=if n<k then none else(new[n - k]?).map (·.2):=by
  intro new
  induction new with
  |nil=>intro k _ n;simp[look]
  |cons p l ih=>
   intro k hk n;have h0:=hk 0 p rfl;rw[aS];have ih':=ih (k+1) (fun i q hq=>by have:=hk (i+1) q (by simpa using hq);omega) n;by_cases e:p.1=n
   ·rw[if_pos e,if_neg om];have:n - k=0:=by omega
    rw[this];rfl
   ·rw[if_neg e,ih'];by_cases e1:n<k
    ·rw[if_pos om,if_pos e1]
    ·rw[if_neg om,if_neg e1];have:n - k=(n - (k+1))+1:=by omega
     rw[this,List.getElem?_cons_succ]
 exact key new k fun i p hp=>(N.nth i p hp).1
theorem Mem.opens (H:Mem X ρ F o c h) {S:Nat→Ft} (K:MO X ρ F o c h S) {m0:Nat} {y0 y1:TO} {S0:Ft} {Ss:List Ft} {new:List (Nat×TO)} {ls:List Loc} (hl:look o m0=some y0) (N:Fu F h X.base c Ss new ls) (hp:(S m0).Perm (S0++Ss.flatten))
 (xN:(∀t v,VR c ρ F h t v→VR (c+new.length) (pI ρ c ls) F h t v)→OR (c+new.length) (pI ρ c ls) F h X.base m0 S0 y1):
 Mem X (pI ρ c ls) F (new++fq o m0 y1) (c+new.length) h∧∀t v,VR c ρ F h t v→VR (c+new.length) (pI ρ c ls) F h t v:=by
 have hA:∀n l,n<c→pI ρ c ls n=some l→ρ n=some l:=fun n l hn h1=>by rwa [fR _ _ hn]at h1
 have hB:∀n b,ρ n=some (.dw b)→pI ρ c ls n=some (.dw b):=fun n b h1=>by rw[fR _ _ (H.names _ _ h1)];exact h1
 have hm:∀t v,VR c ρ F h t v→VR (c+new.length) (pI ρ c ls) F h t v:=fun t v=>VR.mono om hA hB (fun _ h=>h) (fun _ _ _ h=>h);have HK:=H.lt hl
 let S':Nat→Ft:=fun n=>if n<c then(if n=m0 then S0 else S n)else(Ss[n - c]?).getD []
 have s0:S' m0=S0:=(if_pos HK).trans (if_pos rfl);have s1:∀n,n<c→n≠m0→S' n=S n:=fun n h1 h2=>(if_pos h1).trans (if_neg h2);have s2:∀i:Nat,S' (c+i)=(Ss[i]?).getD []:=fun i=>(if_neg om).trans (by rw[Nat.add_sub_cancel_left]);have Uw:(dS (S m0)).Perm (dS S0++dS Ss.flatten):=by rw[←qU];exact hp.map _
 have AG:(dS S0++dS Ss.flatten).Nodup:=Uw.nodup_iff.1 (K.EG m0 _ hl);have inS:∀(i:Nat) Q,Ss[i]? =some Q→∀p∈Q,p∈S m0:=fun i Q hQ p hpQ=>hp.mem_iff.2 (List.mem_append_right _ (List.mem_flatten.2 ⟨Q,List.mem_of_getElem? hQ,hpQ⟩))
 -- where an object comes from
 have mB:∀n y,look (new++fq o m0 y1) n=some y→(n=m0∧y=y1)∨(n<c∧n≠m0∧look o n=some y)∨∃(i:Nat) (Q:Ft) (l:Loc),n=c+i∧Ss[i]? =some Q∧ls[i]? =some l∧CR F h X.base Q (.o y l):=by
  intro n y hn;rw[ku,vn N]at hn;by_cases hc:n<c
  ·rw[if_pos hc]at hn;simp only at hn;rw[eJ]at hn;by_cases e:n=m0
   ·rw[if_pos e,hl]at hn;simp at hn;exact .inl ⟨e,hn.symm⟩
   ·rw[if_neg e]at hn;exact .inr (.inl ⟨hc,e,hn⟩)
  ·rw[if_neg hc]at hn;cases hq:new[n - c]? with
   |none=>
    rw[hq]at hn;simp only[Option.map_none]at hn;rw[eJ,if_neg om]at hn;exact absurd (H.lt hn) hc
   |some p=>
    rw[hq]at hn;simp only[Option.map_some,Option.some.injEq]at hn;subst hn;obtain⟨_,Q,l,h1,h2,h3⟩:=N.nth _ _ hq;exact .inr (.inr ⟨n - c,Q,l,om,h1,h2,h3⟩)
 have Ux:∀n y,look (new++fq o m0 y1) n=some y→∀p∈S' n,(n<c∧n≠m0∧p∈S n∧look o n=some y)∨p∈S m0:=by
  intro n y hn p Q3;rcases mB n y hn with⟨rfl,_⟩|⟨h1,h2,h3⟩|⟨i,Q,l,rfl,h1,_,_⟩
  ·rw[s0]at Q3;exact .inr (hp.mem_iff.2 (List.mem_append_left _ Q3))
  ·rw[s1 n h1 h2]at Q3;exact .inl ⟨h1,h2,Q3,h3⟩
  ·rw[s2,h1]at Q3;exact .inr (inS i Q h1 p Q3)
 refine⟨⟨⟨S',fun n y hn=>?_,fun n y hn=>?_,fun n1 n2 z1 z2 x h1 h2 k1 k2=>?_,fun n y x hn hx=>?_,fun n y x b hn hx hb=>?_⟩,fun n l hn=>?_,H.frozen,H.F0,H.wf,H.pP,H.mA,H.Dt,?_,fun k l hk hl=>?_,fun k b hk hb=>?_⟩,hm⟩
 ·rcases mB n y hn with⟨rfl,rfl⟩|⟨h1,h2,h3⟩|⟨i,Q,l,rfl,h1,h2,h3⟩
  ·rw[s0];exact xN hm
  ·rw[s1 n h1 h2];exact(K.ct n y h3).bA (T:=fun _=>False) H.wf (fun _ _ _=>rfl) (fun _ _ hf=>hf.elim) (fun _ h=>h) (fun _ _ _ h=>h) hm (fR _ _ h1)
  ·rw[s2,h1];exact OR.tX h3 (by rw[ua];exact h2)
 ·rcases mB n y hn with⟨rfl,rfl⟩|⟨h1,h2,h3⟩|⟨i,Q,l,rfl,h1,h2,h3⟩
  ·rw[s0];exact(List.nodup_append.1 AG).1
  ·rw[s1 n h1 h2];exact K.EG n y h3
  ·rw[s2,h1];have:(Q.map (·.1)).Sublist (dS Ss.flatten):=(List.sublist_flatten_of_mem (List.mem_of_getElem? h1)).map _;exact this.nodup (List.nodup_append.1 AG).2.1
 ·have idx:∀(i j:Nat) (Q R:Ft) (x:Nat),Ss[i]? =some Q→Ss[j]? =some R→x∈dS Q→x∈dS R→i=j:=by
   have u4:(Ss.map dS).flatten.Nodup:=by
    have:=(List.nodup_append.1 AG).2.1;unfold dS at this;rw[List.map_flatten]at this;exact this
   intro i j Q R x hi hj hxi hxj;have pw:=List.pairwise_iff_getElem.1 (List.pairwise_flatten.1 u4).2;have key:∀(i j:Nat) (Q R:Ft),Ss[i]? =some Q→Ss[j]? =some R→x∈dS Q→x∈dS R→i<j→False:=fun i j Q R hi hj hxi hxj aN=>by
    have li:=(List.getElem?_eq_some_iff.1 hi);have lj:=(List.getElem?_eq_some_iff.1 hj);refine pw i j (by simpa using li.1) (by simpa using lj.1) aN x ?_ x ?_ rfl
    ·rw[List.getElem_map,li.2];exact hxi
    ·rw[List.getElem_map,lj.2];exact hxj
   rcases Nat.lt_trichotomy i j with aN|heq|aN
   ·exact(key i j Q R hi hj hxi hxj aN).elim
   ·exact heq
   ·exact(key j i R Q hj hi hxj hxi aN).elim
  have dis:∀x,x∈dS S0→∀(i:Nat) (Q:Ft),Ss[i]? =some Q→x∈dS Q→False:=fun x h1 i Q h2 h3=>by
   refine(List.nodup_append.1 AG).2.2 x h1 x ?_ rfl;obtain⟨p,Dx,rfl⟩:=List.mem_map.1 h3;exact List.mem_map.2 ⟨p,List.mem_flatten.2 ⟨Q,List.mem_of_getElem? h2,Dx⟩,rfl⟩
  have inm:∀(x i:Nat) (Q:Ft),Ss[i]? =some Q→x∈dS Q→x∈dS (S m0):=fun x i Q h1 h2=>by
   obtain⟨p,Dx,rfl⟩:=List.mem_map.1 h2;exact List.mem_map.2 ⟨p,inS i Q h1 p Dx,rfl⟩
  have in0:∀x,x∈dS S0→x∈dS (S m0):=fun x hx=>Uw.mem_iff.2 (List.mem_append_left _ hx);rcases mB n1 z1 h1 with⟨rfl,_⟩|⟨a1,a2,a3⟩|⟨i,Q,l,rfl,a1,_,_⟩<;>rcases mB n2 z2 h2 with⟨rfl,_⟩|⟨b1,b2,b3⟩|⟨j,R,l',rfl,b1,_,_⟩
  ·rfl
  ·rw[s0]at k1;rw[s1 _ b1 b2]at k2;exact absurd (K.fO _ _ _ _ x hl b3 (in0 x k1) k2).symm b2
  ·rw[s0]at k1;rw[s2,b1]at k2;exact(dis x k1 j R b1 k2).elim
  ·rw[s1 _ a1 a2]at k1;rw[s0]at k2;exact absurd (K.fO _ _ _ _ x a3 hl k1 (in0 x k2)) a2
  ·rw[s1 _ a1 a2]at k1;rw[s1 _ b1 b2]at k2;exact K.fO _ _ _ _ x a3 b3 k1 k2
  ·rw[s1 _ a1 a2]at k1;rw[s2,b1]at k2;exact absurd (K.fO _ _ _ _ x a3 hl k1 (inm x j R b1 k2)) a2
  ·rw[s2,a1]at k1;rw[s0]at k2;exact(dis x k2 i Q a1 k1).elim
  ·rw[s2,a1]at k1;rw[s1 _ b1 b2]at k2;exact absurd (K.fO _ _ _ _ x hl b3 (inm x i Q a1 k1) k2).symm b2
  ·rw[s2,a1]at k1;rw[s2,b1]at k2;rw[idx i j Q R x a1 b1 k1 k2]
 ·obtain⟨p,Dx,rfl⟩:=List.mem_map.1 hx;rcases Ux n y hn p Dx with⟨_,_,h3,h4⟩|h3
  ·exact K.fP n y _ h4 (eB h3)
  ·exact K.fP m0 _ _ hl (eB h3)
 ·rcases Ux n y hn _ hx with⟨_,_,h3,h4⟩|h3
  ·exact K.apart n y x b h4 h3 hb
  ·exact K.apart m0 _ x b hl h3 hb
 ·by_cases hc:n<c
  ·omega
  ·unfold pI at hn;rw[if_neg hc]at hn;have:=(List.getElem?_eq_some_iff.1 hn).1;have:=N.l2;omega
 ·have:=H.Du.1;omega
 ·exact H.Du.2.1 k l hk (hA k l (Nat.lt_of_lt_of_le hk H.Du.1) hl)
 ·exact hB k b (H.Du.2.2 k b hk hb)
theorem Mem.share (H:Mem X ρ F o c h) (m:Nat):∃F',Mem X ρ F' (jI o m) c h∧(∀t v,VR c ρ F h t v→VR c ρ F' h t v)∧(∀b,F b→F' b)∧
 ∀z w es v,look o m=some (.arr z w es)→VR c ρ F h (.tk m) v→VR c ρ F' h (.sl z es false) v:=by
 unfold jI;split
 ·rename_i z w es hl;obtain⟨S,K⟩:=H.ex;have hO:=K.ct m _ hl;have nS:∀n y,n≠m→look (fq o m (.arr z false es)) n=some y→look o n=some y:=fun n y bH hy=>by rwa [eJ,if_neg bH]at hy
  have hsf:∀y',look (fq o m (.arr z false es)) m=some y'→y'= .arr z false es:=fun y' hy=>by rw[eJ,if_pos rfl,hl]at hy;simp at hy;exact hy.symm
  cases hS:S m with
  |nil=>
   rw[hS]at hO;cases hO with
   |nil hb hz=>
    obtain⟨M,hm⟩:=H.change K (F':=F) (ρ':=ρ) (c':=c) (h':=h) (o':=fq o m (.arr z false [])) (fun _=>False) m (.arr z false []) [] (Nat.le_refl _) H.wf (fun _ hf=>hf.elim) (fun _ _ _=>rfl) (fun _ _ _ h=>h) (fun _ _=>rfl) (fun _ h=>h) (fun _ h hn=>absurd h hn) (Nat.le_refl _) (fun _ _ _ h=>h) (fun _ _ h=>h) H.names
     (fun n y bH hy=>⟨nS n y bH hy,rfl,fun _ _ hf=>hf.elim⟩) hsf (.nil hb hz) (by simp[dS]) (by simp[dS]) (by simp)
    refine⟨F,M,hm,fun _ h=>h,fun z' w' bU v AI hv=>?_⟩;rw[hl]at AI;cases AI;cases hv with
    |tk hn lx ha h0=>
     rcases h0 _ hb with rfl |⟨b,o',cs,q1,q2,q3,q4,rfl⟩
     ·exact .nil rfl
     ·exact .sl q1 q2 q3 rfl (Nat.le_refl _) (fun h=>by cases h) (by simpa using q4) (by simp) (by simp) fun i j e t v h1=>by simp at h1
  |cons p Sq=>
   have J5:=fun x hx=>K.fP m _ x hl hx;have vh:∀(n:Nat) (y:TO) (x:Nat),n≠m→look o n=some y→x∈dS (S n)→x∈dS (S m)→False:=fun n y x bH hn hx Lr=>bH (K.fO n m y _ x hn hl hx Lr);rw[hS]at hO J5 vh;cases hO with
   |arr hb hg hf ht eG hz hlen he iz hc hF=>
    rename_i b f t0 gX bd cs;have gA:h.rd b=some cs:=eW hf ht (aT hg);have AJ:∀t v,VR c ρ F h t v→VR c ρ (fun x=>F x∨x=b) h t v:=fun t v=>VR.mono (Nat.le_refl _) (fun _ _ _ h=>h) (fun _ _ h=>h) (fun _ h=>.inl h) (fun _ _ _ h=>h);have MM:Mem X ρ (fun x=>F x∨x=b) (fq o m (.arr z false es)) c h∧∀t v,VR c ρ F h t v→VR c ρ (fun x=>F x∨x=b) h t v:=by
     refine H.change K (F':=fun x=>F x∨x=b) (ρ':=ρ) (c':=c) (h':=h) (o':=fq o m (.arr z false es)) (fun _=>False) m (.arr z false es) [(f,false)] (Nat.le_refl _) H.wf (fun _ hf=>hf.elim) (fun _ _ _=>rfl) (fun _ _ _ h=>h) (fun _ _=>rfl) (fun _ h=>.inl h)
      (fun b' bV hn=>?_) (Nat.le_refl _) (fun _ _ _ h=>h) (fun _ _ h=>h) H.names
      (fun n y bH hy=>⟨nS n y bH hy,rfl,fun _ _ hf=>hf.elim⟩) hsf (.arr hb hg hf ht eG hz hlen he iz (fun i j e t v q1 q2 q3=>AJ _ _ (hc i j e t v q1 q2 q3)) fun _=>.inr rfl) (by simp[dS]) (fun x hx=>?_) (fun x b' hx=>by simp at hx)
     ·rcases bV with bV|rfl
      ·exact absurd bV hn
      ·refine⟨by rw[gA];rfl,fun n y x bH hy hx e=>?_,by simp,?_⟩
       ·rw[cu hg]at e;subst e;exact vh n y _ bH (nS n y bH hy) (eB hx) List.mem_cons_self
       ·rw[cu hg];exact(J5 _ List.mem_cons_self).2.2
     ·simp only[dS,List.map_cons,List.map_nil,List.mem_singleton]at hx;subst hx;obtain⟨q1,q2,q3⟩:=J5 _ List.mem_cons_self;exact⟨q1,q2,q3,fun n y bH hy hh=>vh n y _ bH (nS n y bH hy) hh List.mem_cons_self⟩
    obtain⟨M,hm⟩:=MM;refine⟨_,M,hm,fun _ h=>.inl h,fun z' w' bU v AI hv=>?_⟩;rw[hl]at AI;cases AI;cases hv with
    |tk hn lx ha h0=>
     obtain⟨cap,h1,rfl⟩:=ha _ _ _ hb;exact .sl (.inr rfl) gA hz rfl h1 (fun h=>by cases h) (by rw[Nat.zero_add];omega) he iz fun i j e t v q1 q2 q3=>hm _ _ (hc i j e t v q1 q2 (by simpa using q3))
 ·rename_i xn;exact⟨F,H,fun _ _ h=>h,fun _ h=>h,fun z w es v hl=>absurd hl (xn z w es)⟩
end
def fS (ids:List (Option Nat)) (zf:Nat→Nat) (ρ:Gh):Gh:=fun n=>match ids[n]? with
 |some (some m)=>ρ m
 |some none=>some (.nil (zf n))
 |none=>none
section
variable {X:Cx} {ρ:Gh} {F:Nat→Prop} {o:Ob} {c:Nat} {h:ab} {ids:List (Option Nat)} {zf:Nat→Nat}
theorem sJ {n:Nat} {x:Option Nat} (h:ids[n]? =some x):n<ids.length:=(List.getElem?_eq_some_iff.1 h).1
def TxR (c:Nat) (ρ:Gh) (F:Nat→Prop) (h:ab) (c':Nat) (ρ':Gh):Tx→Tx→Prop
 | .v a,.v b=>∀x,VR c ρ F h a x→VR c' ρ' F h b x
 | .l a,.l b=>∀m,dP c ρ F h a m→dP c' ρ' F h b m
 |_,_=>True
theorem pO.rel (H:Mem X ρ F o c h) {a b:Tx} (L:pO ids o a b):TxR c ρ F h ids.length (fS ids zf ρ) a b:=by
 induction L with
 |s hv=>intro x hx;obtain rfl:=hv.eq;cases hx with|s hp=>exact .s hp
 |sl hz hf he=>
  intro x hx;obtain rfl:=he.eq;simp only[Bool.or_eq_true,beq_iff,Bool.not_eq_true']at hz hf;cases hx with
  |nil he=>exact .nil he
  |sl h1 h2 h3 h4 h5 h6 h7 h8 h9 hc=>
   rcases hz with rfl |rfl
   ·refine .sl h1 h2 h3 h4 h5 (fun h=>h6 ?_) h7 h8 h9 fun i j e t v q1 q2 q3=>(hc i j e t v q1 q2 q3).dC (h9 e (List.mem_of_getElem? q1) t (List.mem_of_getElem? q2));rcases hf with hf|hf
    ·rw[hf]at h;cases h
    ·exact hf
   ·omega
 |new hi=>
  intro x hx;cases hx with
  |nil he=>exact .tk (sJ hi) rfl (fun b z len hx=>by simp[fS,hi]at hx) (fun z hx=>.inl rfl)
  |sl h1 h2 h3=>omega
 |tk hi=>
  intro x hx;cases hx with
  |tk hn lx ha h0=>exact .tk (sJ hi) lx (fun b z len hx=>ha b z len (by simpa[fS,hi]using hx)) (fun z hx=>h0 z (by simpa[fS,hi]using hx))
 |pv hi he=>
  intro x hx;obtain rfl:=he.eq;cases hx with
  |pv hn lx ha h0=>exact .pv (sJ hi) lx (fun b z len hx=>ha b z len (by simpa[fS,hi]using hx)) (fun z hx=>h0 z (by simpa[fS,hi]using hx))
 |look hl he=>
  intro x hx;obtain rfl:=he.eq;obtain⟨S,K⟩:=H.ex;cases hx with
  |tk hn lx ha h0=>
   have hO:=K.ct _ _ hl;generalize S _=Sm at hO;cases hO with
   |nil hb hz=>
    rcases h0 _ hb with rfl |⟨b,o',cs,q1,q2,q3,q4,rfl⟩
    ·exact .nil rfl
    ·exact .sl q1 q2 q3 rfl (Nat.le_refl _) (fun h=>by cases h) (by simpa using q4) (by simp) (by simp) fun i j e t v h1=>by simp at h1
   |arr hb hg hf ht eG hz hlen he iz hc hF=>
    obtain⟨cap,h1,rfl⟩:=ha _ _ _ hb
    exact .sl (hF rfl) (eW hf ht (aT hg)) hz rfl h1 (fun h=>by cases h) (by rw[Nat.zero_add];omega) he iz
     fun i j e t v q1 q2 q3=>(hc i j e t v q1 q2 (by simpa using q3)).dC (iz e (List.mem_of_getElem? q1) t (List.mem_of_getElem? q2))
 |ptr hi=>intro x hx;cases hx with|ptr hb=>exact .ptr (by simpa[fS,hi]using hb)
 |ep he=>
  intro x hx;obtain rfl:=he.eq;cases hx with
  |ep h1 h2 h3 h4 hc=>exact .ep h1 h2 h3 h4 fun j t v q1 q2=>(hc j t v q1 q2).dC (h4 t (List.mem_of_getElem? q1))
 |mp hi=>intro x hx;cases hx with|mp hb=>exact .mp (by simpa[fS,hi]using hb)
 |bg hi he=>intro x hx;obtain rfl:=he.eq;cases hx with|bg hb=>exact .bg (by simpa[fS,hi]using hb)
 |agg _ ih=>intro x hx;obtain⟨a',rfl,h1⟩:=hx.fF;exact .gZ (ih _ h1)
 |dk _ ih=>intro x hx;obtain⟨a',rfl,h1⟩:=hx.Dq;exact .jg (ih _ h1)
 |oB _ ih=>intro x hx;cases hx with|oB pJ=>exact .oB (ih _ pJ)
 |dc _ _ AQ AS=>
  intro x hx;cases hx with
  |dc hs ha ht hk=>
   have q1:=AQ _ ⟨by rw[Array.length_toList];exact hs,fun i t v q1 q2=>ha i t v q1 (by simpa using q2)⟩;have q2:=AS _ ⟨by rw[Array.length_toList];exact ht,fun i t v q1 q2=>hk i t v q1 (by simpa using q2)⟩;exact .dc (by have:=q1.1;rwa [Array.length_toList]at this) (fun i t v r1 r2=>q1.2 i t v r1 (by simpa using r2)) (by have:=q2.1;rwa [Array.length_toList]at this) (fun i t v r1 r2=>q2.2 i t v r1 (by simpa using r2))
 |j=>intro x _;exact .j _
 |nil=>intro m hm;rw[hm.bG];exact .nil
 |cons _ _ AQ AS=>intro m hm;obtain⟨v,m',rfl,h1,h2⟩:=hm.aO;exact .cons (AQ _ h1) (AS _ h2)
theorem qV (H:Mem X ρ F o c h) (v v':TV) (x:Value) (L:Y9 ids o v v') (hv:VR c ρ F h v x):VR ids.length (fS ids zf ρ) F h v' x:=pO.rel H L x hv
theorem Fy (H:Mem X ρ F o c h) (l l':List TV) (m:List Value) (L:Za ids o l l') (hv:dP c ρ F h l m):dP ids.length (fS ids zf ρ) F h l' m:=pO.rel H L m hv
theorem fy {z:Nat}:∀{es:List (List TV)} {i:Nat} {e:List TV},(∀e∈es,e.length=z)→es[i]? =some e→(es.flatten.drop (i*z)).take z=e∧(i+1)*z≤es.flatten.length
 |[],i,e,_,h=>by simp at h
 |a::l,0,e,hz,h=>by
  simp at h;subst h;have:=hz a List.mem_cons_self;simp[this]
 |a::l,i+1,e,hz,h=>by
  have ha:=hz a List.mem_cons_self;obtain⟨h1,h2⟩:=fy (es:=l) (i:=i) (fun e he=>hz e (List.mem_cons_of_mem _ he)) (by simpa using h);have e1:(i+1)*z=a.length+i*z:=by rw[ha,Nat.add_mul];omega
  refine⟨?_,?_⟩
  ·rw[List.flatten_cons,e1,List.drop_append,List.drop_eq_nil_of_le om];simpa using h1
  ·rw[List.flatten_cons,List.length_append];have e2:(i+1+1)*z=a.length+(i+1)*z:=by rw[ha,Nat.add_mul (i+1)];omega
   omega
theorem kx {z:Nat}:∀{es:List (List TV)} {i:Nat} {e:List TV},(∀e∈es,e.length=z)→i<es.length→(es.set i e).flatten=es.flatten.take (i*z)++(e++(es.flatten.drop (i*z)).drop z)
 |[],i,e,_,h=>by simp at h
 |a::l,0,e,hz,h=>by
  have:=hz a List.mem_cons_self;subst this;simp
 |a::l,i+1,e,hz,h=>by
  have ha:=hz a List.mem_cons_self;have ih:=kx (es:=l) (i:=i) (e:=e) (fun e he=>hz e (List.mem_cons_of_mem _ he)) (by simpa using h);have e1:(i+1)*z=a.length+i*z:=by rw[ha,Nat.add_mul];omega
  rw[List.set_cons_succ,List.flatten_cons,List.flatten_cons,ih,e1,List.take_length_add_append,List.drop_length_add_append,List.append_assoc]
theorem da.Zh {base:Nat} {S V:Ft} {l l2:List TV} {m:List Value} (H:da c ρ F h base S l m) (p n:Nat) (hf:∀S2,da c ρ F h base S2 ((l.drop p).take n) ((m.drop p).take n)→∃S3,da c ρ F h base S3 l2 ((m.drop p).take n)∧S3.Perm (S2++V)):
 ∃S',da c ρ F h base S' (l.take p++(l2++(l.drop p).drop n)) m∧S'.Perm (S++V):=by
 obtain⟨S1,S2,S3,rfl,h1,h2,h3⟩:=H.part p n;obtain⟨S4,h4,h5⟩:=hf S2 h2;refine⟨S1++(S4++S3),?_,?_⟩
 ·have:=h1.join (h4.join h3)
  rwa [List.take_append_drop,List.take_append_drop]at this
 ·refine((h5.append_right S3).append_left S1).trans ?_;rw[List.append_assoc,List.append_assoc,List.append_assoc];exact(((List.perm_append_comm (l₁:=V) (l₂:=S3)).append_left S2)).append_left S1
theorem da.Io {base:Nat} {S:Ft} {l:List TV} {m:List Value} (H:da c ρ F h base S l m):(∀t∈l,nP t=true)→CR F h base S (.cs l m):=by
 induction H with
 |nil=>intro _;exact .nil
 |vr hv _ ih=>
  rename_i t v l m _;intro hc;have h1:=hc t List.mem_cons_self;have h2:=ih fun t ht=>hc t (List.mem_cons_of_mem _ ht);have hf:M.fz t=true:=by
   unfold nP at h1;split at h1
   ·cases hv
   ·exact h1
  exact .cons (S:=[]) (.fz hf (hv.dC hf)) h2
 |cl hv _ ih=>intro hc;exact .cons hv (ih fun t ht=>hc t (List.mem_cons_of_mem _ ht))
theorem jh.Io {base kd:Nat} {S:Ft} {l:List (Value×TV)} {m:List MapEntry} (H:jh c ρ F h base kd S l m):(∀e∈l,∀t∈aI e.2,nP t=true)→CR F h base S (.es kd l m):=by
 induction H with
 |nil=>intro _;exact .Lo
 |cons hk j5 ha hv _ ih=>intro hc;exact .BB hk j5 ha (hv.Io (hc _ List.mem_cons_self)) (ih fun e he=>hc e (List.mem_cons_of_mem _ he))
theorem da.conv {base c':Nat} {ρ':Gh} {S:Ft} {l:List TV} {m:List Value} (H:da c ρ F h base S l m) (hc:∀t∈l,nP t=true):da c' ρ' F h base S l m:=da.tX (H.Io hc) _ _ rfl
theorem jh.conv {base kd c':Nat} {ρ':Gh} {S:Ft} {l:List (Value×TV)} {m:List MapEntry} (H:jh c ρ F h base kd S l m) (hc:∀e∈l,∀t∈aI e.2,nP t=true):jh c' ρ' F h base kd S l m:=jh.tX (H.Io hc) _ _ _ rfl
theorem jh.put {base kd c':Nat} {ρ':Gh} {k:Value} {v v1:TV} {V:Ft} (ha:dz v=dz v1) (hf:∀S2 (x:Value),da c ρ F h base S2 (aI v) x.cells.toList→∃S3,da c' ρ' F h base S3 (aI v1) x.cells.toList∧S3.Perm (S2++V)):
 ∀{es:List (Value×TV)} {S:Ft} {ev:List MapEntry},(∀e∈es,∀t∈aI e.2,nP t=true)→jh c ρ F h base kd S (dL es k v) ev→∃S',jh c' ρ' F h base kd S' (dL es k v1) ev∧S'.Perm (S++V):=by
 have one:∀{l:List (Value×TV)} {S:Ft} {ev:List MapEntry},(∀e∈l,∀t∈aI e.2,nP t=true)→jh c ρ F h base kd S ((k,v)::l) ev→∃S',jh c' ρ' F h base kd S' ((k,v1)::l) ev∧S'.Perm (S++V):=by
  intro l S ev b6 H;cases H with
  |cons hk j5 yf hv hl=>
   obtain⟨S3,h1,h2⟩:=hf _ _ hv;refine⟨_,.cons hk j5 (ha.symm.trans yf) h1 (hl.conv b6),?_⟩;refine(h2.append_right _).trans ?_;rw[List.append_assoc,List.append_assoc];exact List.perm_append_comm.append_left _
 intro es
 induction es with
 |nil=>intro S ev _ H;exact one (by simp) H
 |cons e es ih=>
  intro S ev b6 H;unfold dL at H ⊢;have Zi:=fun e' vo=>b6 e' (List.mem_cons_of_mem _ vo);cases hq:mR k e.1 with
  |true=>rw[hq]at H;exact one Zi H
  |false=>
   rw[hq]at H;cases H with
   |cons hk j5 yf hv hl=>
    obtain⟨S',h1,h2⟩:=ih Zi hl;refine⟨_,.cons hk j5 yf (hv.conv (b6 _ List.mem_cons_self)) h1,?_⟩;rw[List.append_assoc];exact h2.append_left _
theorem yL {k:Value} {v:TV}:∀{es:List (Value×TV)} {e:Value×TV},e∈dL es k v→e=(k,v)∨e∈es
 |[],e,h=>by simp[dL]at h;exact .inl h
 |a::l,e,h=>by
  unfold dL at h;split at h
  ·rcases List.mem_cons.1 h with rfl |h
   ·exact .inl rfl
   ·exact .inr (List.mem_cons_of_mem _ h)
  ·rcases List.mem_cons.1 h with rfl |h
   ·exact .inr List.mem_cons_self
   ·rcases yL h with h|h
    ·exact .inl h
    ·exact .inr (List.mem_cons_of_mem _ h)
def LiR (X:Cx) (ρ:Gh) (F:Nat→Prop) (_:Ob) (c:Nat) (h:ab) (S:Nat→Ft) (U:List Nat):Li→Prop
 | .c t y=>∀S0 v,da c ρ F h X.base S0 [t] [v]→∃S1,CR F h X.base S1 (.c (.own y) v)∧S1.Perm (S0++U.flatMap S)
 | .k l m=>∀S0 vs,da c ρ F h X.base S0 l vs→∃S1,CR F h X.base S1 (.cs m vs)∧S1.Perm (S0++U.flatMap S)
 | .b q y=>∀yo n S0 l,q=some yo→OR c ρ F h X.base n S0 yo→ρ n=some l→∃S1,CR F h X.base S1 (.o y l)∧S1.Perm (S0++U.flatMap S)
 | .q op ft=>∀es z cs S0,(∀e∈es,e.length=z)→(∀e∈es,∀t∈e,nP t=true)→(∀p∈op,p.1<es.length∧p.2.length=z)→da c ρ F h X.base S0 (cZ es op).flatten cs→
  ∃S1,da c ρ F h X.base S1 (cZ es ft).flatten cs∧S1.Perm (S0++U.flatMap S)∧(∀e∈cZ es ft,e.length=z∧∀t∈e,nP t=true)∧(cZ es ft).length=es.length
 | .m op ft=>∀es kd ev S0,(∀e∈es,∀t∈aI e.2,nP t=true)→jh c ρ F h X.base kd S0 (Oi es op) ev→∃S1,jh c ρ F h X.base kd S1 (Oi es ft) ev∧S1.Perm (S0++U.flatMap S)∧∀e∈Oi es ft,∀t∈aI e.2,nP t=true
theorem da.Ip {base:Nat} {S0:Ft} {t:TV} {v:Value} (H:da c ρ F h base S0 [t] [v]) (hp:eR t=true):S0=[]∧VR c ρ F h t v:=by
 obtain⟨h1,h2⟩:=H.Uv (fun t v hv hf=>hv.dC hf) (by simpa using hp);exact⟨h2,h1.head⟩
theorem Ls (y:TO) {m:Nat} {l:Loc} {v:Value} (hv:VR c ρ F h (Fh y m) v) (hl:ρ m=some l):VR 1 (fun _=>some l) F h (Fh y 0) v:=by
 cases y with
 |cells cs=>cases hv with|ptr hb=>exact .ptr (hl.symm.trans hb)
 |map kd es=>cases hv with|mp hb=>exact .mp (hl.symm.trans hb)
 |fW kd es op=>cases hv with|mp hb=>exact .mp (hl.symm.trans hb)
 |arr z w es=>cases hv with|tk hn h1 ha h0=>exact .tk om h1 (fun b z len hx=>ha b z len (hl.trans hx)) (fun z hx=>h0 z (hl.trans hx))
 |bB z es op=>cases hv with|tk hn h1 ha h0=>exact .tk om h1 (fun b z len hx=>ha b z len (hl.trans hx)) (fun z hx=>h0 z (hl.trans hx))
 |eQ ks=>cases hv with|bg hb=>exact .bg (hl.symm.trans hb)
theorem OR.loc {base n:Nat} {S:Ft} {y:TO} (H:OR c ρ F h base n S y):∃l,ρ n=some l:=by cases H<;>exact⟨_,by assumption⟩
theorem j8.Iq {U:List Nat} {i:Li} (L:j8 o U i):∀l m,i= .k l m→l.length=m.length∧∀t∈m,nP t=true:=by
 induction L with
 |Zb=>rintro l m e;cases e;exact⟨rfl,by simp⟩
 |Zc _ _ _ ih=>
  rintro l m e;cases e;obtain⟨h1,h2⟩:=ih _ _ rfl;refine⟨by simp[h1],fun t ht=>?_⟩;rcases List.mem_cons.1 ht with rfl |ht
  ·rfl
  ·exact h2 t ht
 |kfz _ hf _ ih=>
  rintro l m e;cases e;obtain⟨h1,h2⟩:=ih _ _ rfl;refine⟨by simp[h1],fun t ht=>?_⟩;rcases List.mem_cons.1 ht with rfl |ht
  ·unfold nP;split<;>first|rfl |exact hf
  ·exact h2 t ht
 |_=>rintro l m e;cases e
theorem CR.fzs {base:Nat}:∀{l:List TV} {m:List Value},dP 0 xM F h l m→(∀t∈l,M.fz t=true)→CR F h base [] (.cs l m)
 |[],m,H,_=>by rw[H.bG];exact .nil
 |t::l,m,H,hf=>by
  obtain⟨v,m',rfl,h1,h2⟩:=H.aO;exact .cons (S:=[]) (.fz (hf t List.mem_cons_self) h1) (CR.fzs h2 fun t ht=>hf t (List.mem_cons_of_mem _ ht))
theorem Lt {v:TV} {x:Value} (hf:Fg v=true) (hv:VR c ρ F h v x):dz v=gg x∧(∀t∈aI v,fz t=true)∧dP 0 xM F h (aI v) x.cells.toList:=by
 have h0:=hv.xL (c':=0) (ρ':=xM) hf;have one:(∀cs,v≠ .agg cs)→dz v=gg x∧(∀t∈aI v,fz t=true)∧dP 0 xM F h (aI v) x.cells.toList:=by
  intro Hz;have e1:aI v=[v]:=by cases v<;>first|rfl |exact absurd rfl (Hz _)
  have e2:fz v=true:=by cases v<;>first|exact hf|exact absurd rfl (Hz _)
  have e3:dz v=false:=by cases v<;>first|rfl |exact absurd rfl (Hz _)
  have hx:∀a,x≠ .agg a:=by
   rintro a rfl;cases h0 with
   |j=>simp[fz]at e2
   |s hp=>simp[aB]at hp
   |tk _ h1=>simp[Ln]at h1
   |sv _ h1=>simp[Ln]at h1
   |pv _ h1=>simp[Ln]at h1
   |wp _ h1=>simp[Yc]at h1
   |agg=>exact Hz _ rfl
  have e4:gg x=false:=by cases x<;>first|rfl |exact absurd rfl (hx _)
  have e5:x.cells= #[x]:=by cases x<;>first|rfl |exact absurd rfl (hx _)
  rw[e1,e3,e4,e5];exact⟨rfl,by simpa using e2,.cons h0 .nil⟩
 cases v with
 |agg cs=>
  obtain⟨a,rfl,h1⟩:=h0.fF;exact⟨rfl,fun t ht=>List.all_eq_true.1 hf t ht,h1⟩
 |_=>exact one (by intro cs e;cases e)
theorem CR.VP {base kd:Nat}:∀{es:List (Value×TV)} {ev:List MapEntry},es.length=ev.length→(∀(i:Nat) e e',es[i]? =some e→ev[i]? =some e'→e'.key=e.1∧(0<kd∧bk e.1=kd)∧Fg e.2=true∧VR c ρ F h e.2 e'.val)→CR F h base [] (.es kd es ev)
 |[],[],_,_=>.Lo
 |[],_::_,h,_=>by simp at h
 |_::_,[],h,_=>by simp at h
 |e::es,e'::ev,hl,hc=>by
  obtain⟨h1,h2,h3,h4⟩:=hc 0 e e' rfl rfl;obtain⟨k1,k2,k3⟩:=Lt h3 h4;exact .BB (S:=[]) h1 h2 k1 (CR.fzs k3 k2) (CR.VP (by simpa using hl) fun i x x' q1 q2=>hc (i+1) x x' (by simpa using q1) (by simpa using q2))
theorem iL {z:Nat}:∀{es:List (List TV)} {cs:List Value},cs.length=es.length*z→(∀e∈es,e.length=z)→(∀(i j:Nat) e t v,es[i]? =some e→e[j]? =some t→cs[i*z+j]? =some v→VR c ρ F h t v)→dP c ρ F h es.flatten cs
 |[],cs,hl,_,_=>by
  have:cs=[]:=List.length_eq_zero_iff.1 (by simpa using hl);subst this;exact .nil
 |e::es,cs,hl,he,hc=>by
  have hz:=he e List.mem_cons_self;have e1:cs=cs.take z++cs.drop z:=(List.take_append_drop _ _).symm;rw[List.length_cons,Nat.add_mul]at hl;rw[e1,List.flatten_cons];refine dP.append ⟨by simp;omega,fun j t v q1 q2=>?_⟩ (iL (z:=z) (by simp;omega) (fun e vo=>he e (List.mem_cons_of_mem _ vo)) fun i j e t v q1 q2 q3=>?_)
  ·rw[List.getElem?_take]at q2;split at q2
   ·exact hc 0 j e t v rfl q1 (by rw[←q2];congr 1;omega)
   ·cases q2
  ·rw[List.getElem?_drop]at q3;exact hc (i+1) j e t v (by simpa using q1) q2 (by rw[←q3];congr 1;rw[Nat.add_mul];omega)
theorem Zl.len {x y:List TV} (H:Zl x y):y.length=x.length:=by
 induction H with
 |nil=>rfl
 |same _ ih=>simp[ih]
 |zero _ ih=>simp[ih]
theorem Zl.fz {x y:List TV} (H:Zl x y):(∀t∈x,M.fz t=true)→∀t∈y,M.fz t=true:=by
 induction H with
 |nil=>exact fun h=>h
 |same _ ih=>
  intro h t ht;rcases List.mem_cons.1 ht with rfl |ht
  ·exact h _ List.mem_cons_self
  ·exact ih (fun t ht=>h t (List.mem_cons_of_mem _ ht)) t ht
 |zero _ ih=>
  intro h t ht;rcases List.mem_cons.1 ht with rfl |ht
  ·rfl
  ·exact ih (fun t ht=>h t (List.mem_cons_of_mem _ ht)) t ht
theorem Zl.vr {x y:List TV} (H:Zl x y):∀(j:Nat) t',y[j]? =some t'→∃t,x[j]? =some t∧∀v,VR c ρ F h t v→VR c ρ F h t' v:=by
 induction H with
 |nil=>intro j t' h;simp at h
 |same _ ih=>
  intro j t' h;cases j with
  |zero=>simp at h;subst h;exact⟨_,rfl,fun _ h=>h⟩
  |succ j=>simpa using ih j t' (by simpa using h)
 |zero _ ih=>
  intro j t' h;cases j with
  |zero=>
   simp at h;subst h;refine⟨_,rfl,fun v hv=>?_⟩;cases hv with
   |nil=>exact .nil rfl
   |sl _ _ hz=>exact absurd hz (Nat.lt_irrefl 0)
  |succ j=>simpa using ih j t' (by simpa using h)
theorem j8.rel (H:Mem X ρ F o c h) {S:Nat→Ft} (K:MO X ρ F o c h S) {U:List Nat} {i:Li} (L:j8 o U i):LiR X ρ F o c h S U i∧∀u∈U,∃y,look o u=some y:=by
 have named:∀{U:List Nat} {m:Nat} {y:TO},eR (Fh y m)=true→(LiR X ρ F o c h S U (.b (look o m) y)∧∀u∈U,∃y,look o u=some y)→(∃y0,look o m=some y0)→LiR X ρ F o c h S (m::U) (.c (Fh y m) y)∧∀u∈m::U,∃y,look o u=some y:=by
  rintro U m y hp ⟨AQ,AS⟩ ⟨y0,hl⟩;refine⟨fun S0 v hv=>?_,fun u hu=>?_⟩
  ·obtain⟨rfl,pJ⟩:=hv.Ip hp;have hO:=K.ct m y0 hl;obtain⟨l,fu⟩:=hO.loc;obtain⟨S1,h1,h2⟩:=AQ y0 m _ l hl hO fu;exact⟨S1,.own h1 (Ls y pJ fu),by simpa using h2⟩
  ·rcases List.mem_cons.1 hu with rfl |hu
   ·exact⟨y0,hl⟩
   ·exact AS u hu
 have vp:∀{U:List Nat} {m:Nat} {y:TO},j8 o U (.b (look o m) y)→∃y0,look o m=some y0:=by
  intro U m y hL;generalize hq:look o m=q at hL;cases q with
  |none=>cases hL
  |some y0=>exact⟨y0,rfl⟩
 have p0:∀(S0:Ft),S0.Perm (S0++([]:List Nat).flatMap S):=fun S0=>by simp
 induction L with
 |same hy=>obtain rfl:=hy.eq;exact⟨fun S0 v hv=>⟨S0,by
  cases hv with
  |vr hv _=>cases hv
  |cl hv hl=>cases hl;simpa using hv,p0 S0⟩,by simp⟩
 |ptr hL ih=>exact named rfl ih (vp hL)
 |mp hL ih=>exact named (y:=.map _ _) rfl ih (vp hL)
 |mpq hL ih=>exact named (y:=.fW _ _ _) rfl ih (vp hL)
 |tk hL ih=>exact named (y:=.arr _ _ _) rfl ih (vp hL)
 |tkq hL ih=>exact named (y:=.bB _ _ _) rfl ih (vp hL)
 |bg hl hL ih=>obtain rfl:=hl.eq;exact named (y:=.eQ _) rfl ih (vp hL)
 |Dk h0=>
  refine⟨fun S0 v hv=>?_,by simp⟩;obtain⟨rfl,pJ⟩:=hv.Ip rfl;refine⟨[],.own (.Dk (ba.1 h0)) ?_,p0 _⟩;cases pJ with
  |nil=>exact .tk om rfl (fun b z len hx=>by cases hx) (fun z hx=>.inl rfl)
  |sl h1 h2 h3=>omega
 |ia h0=>
  refine⟨fun S0 v hv=>?_,by simp⟩;obtain⟨rfl,pJ⟩:=hv.Ip rfl;refine⟨[],.own (.ia (ba.1 h0)) ?_,p0 _⟩;cases pJ with
  |nil=>exact .tk om rfl (fun b z len hx=>by cases hx) (fun z hx=>.inl rfl)
  |sl h1 h2 h3=>omega
 |cells _ ih=>
  refine⟨fun yo n S0 l e hO fu=>?_,ih.2⟩;cases e;cases hO with
  |cells hb hg ht hc=>
   rw[hb]at fu;cases fu;obtain⟨S1,h1,h2⟩:=ih.1 _ _ hc;exact⟨_,.cells hg ht h1,h2.cons _⟩
 |map he=>
  obtain rfl:=he.eq;refine⟨fun yo n S0 l e hO fu=>?_,by simp⟩;cases e;cases hO with
  |map hb hg hl hc bR=>
   rw[hb]at fu;cases fu;exact⟨_,.map hg hl (fun i e e' q1 q2=>let⟨r1,r2,r3,r4⟩:=hc i e e' q1 q2;⟨r1,r2,r3,r4.xL r3⟩) bR,p0 _⟩
 |RY he=>
  obtain rfl:=he.eq;refine⟨fun yo n S0 l e hO fu=>?_,by simp⟩;cases e;cases hO with
  |map hb hg hl hc bR=>
   rw[hb]at fu;cases fu;exact⟨_,.fW hg (CR.VP hl hc) bR,p0 _⟩
 |arr he=>
  obtain rfl:=he.eq;refine⟨fun yo n S0 l e hO fu=>?_,by simp⟩;cases e;cases hO with
  |nil hb hz=>rw[hb]at fu;cases fu;exact⟨_,.Dk hz,p0 _⟩
  |arr hb hg hf ht eG hz hl he iz hc hF=>
   rw[hb]at fu;cases fu;exact⟨_,.arr hg hf ht eG hz hl he iz (fun i j e t v q1 q2 q3=>(hc i j e t v q1 q2 q3).dC (iz e (List.mem_of_getElem? q1) t (List.mem_of_getElem? q2))) hF,p0 _⟩
 |aco ha bV Lu=>
  rename_i z w a b l0 x y;have ea:=ha.eq;have eb:=bV.eq;refine⟨fun yo n S0 l e hO fu=>?_,by simp⟩;cases e;cases hO with
  |nil hb hz=>exact absurd ea (by simp)
  |arr hb hg hf ht eG hz hl he iz hc hF=>
   rw[hb]at fu;cases fu;have hlen:a.length=b.length:=by rw[ea,←eb];simp
   have hx:x∈a:=by rw[ea];simp
   have key:∀e'∈b,e'∈a∨e'=y:=fun e' vo=>by
    rw[←eb]at vo;rcases List.mem_append.1 vo with q|q
    ·exact .inl (by rw[ea];exact List.mem_append_left _ q)
    ·exact .inr (by simpa using q)
   have acB:∀(i j:Nat) e' t',b[i]? =some e'→e'[j]? =some t'→∃e t,a[i]? =some e∧e[j]? =some t∧∀v,VR c ρ F h t v→VR c ρ F h t' v:=fun i j e' t' q1 q2=>by
    rw[←eb]at q1;by_cases hi:i<l0.length
    ·rw[List.getElem?_append_left hi]at q1;exact⟨e',t',by rw[ea,List.getElem?_append_left hi];exact q1,q2,fun _ h=>h⟩
    ·rw[List.getElem?_append_right om]at q1;have Uy:i - l0.length=0:=by have:=(List.getElem?_eq_some_iff.1 q1).1;simp at this;omega
     rw[Uy]at q1;simp at q1;subst q1;obtain⟨t,q3,q4⟩:=Lu.vr j t' q2;exact⟨x,t,by rw[ea,List.getElem?_append_right om,Uy];rfl,q3,q4⟩
   have Dy:∀e∈b,∀t∈e,fz t=true:=fun e' vo=>by
    rcases key e' vo with q|rfl
    ·exact iz e' q
    ·exact Lu.fz (iz x hx)
   rw[hlen]at hl ⊢;exact⟨_,.arr hg hf ht eG hz hl (fun e' vo=>by
    rcases key e' vo with q|rfl
    ·exact he e' q
    ·rw[Lu.len];exact he x hx) Dy (fun i j e' t' v q1 q2 q3=>by
    obtain⟨e,t,r1,r2,r3⟩:=acB i j e' t' q1 q2;exact(r3 v (hc i j e t v r1 r2 q3)).dC (Dy e' (List.mem_of_getElem? q1) t' (List.mem_of_getElem? q2))) hF,p0 _⟩
 |RZ he=>
  obtain rfl:=he.eq;refine⟨fun yo n S0 l e hO fu=>?_,by simp⟩;cases e;cases hO with
  |nil hb hz=>rw[hb]at fu;cases fu;exact⟨_,.ia hz,p0 _⟩
  |arr hb hg hf ht eG hz hl he iz hc hF=>
   rw[hb]at fu;cases fu;refine⟨_,.bB hg hf ht eG hz hl he (CR.fzs (iL hl he fun i j e t v q1 q2 q3=>(hc i j e t v q1 q2 q3).dC (iz e (List.mem_of_getElem? q1) t (List.mem_of_getElem? q2))) fun t ht=>?_),p0 _⟩;obtain⟨e,h1,h2⟩:=List.mem_flatten.1 ht;exact iz e h1 t h2
 |bB hs he _ ih=>
  refine⟨fun yo n S0 l e hO fu=>?_,ih.2⟩;cases e;obtain rfl:=he.eq;cases hO with
  |ia hb hz=>rw[hb]at fu;cases fu;cases hs;exact⟨_,.ia hz,by
   obtain⟨S1,h1,h2,_⟩:=ih.1 [] 1 [] [] (by simp) (by simp) (by simp) .nil;cases h1;exact h2⟩
  |bB hb hg hf ht eG hz hl he b6 iW hc=>
   rw[hb]at fu;cases fu;obtain⟨S1,h1,h2,h3,h4⟩:=ih.1 _ _ _ _ he b6 iW hc;have:=CR.bB (S:=S1) hg hf ht eG hz (by rw[hl,h4]) (fun e he=>(h3 e he).1) (h1.Io fun t ht=>by
    obtain⟨e,q1,q2⟩:=List.mem_flatten.1 ht;exact(h3 e q1).2 t q2)
   rw[h4]at this;exact⟨_,this,h2.cons _⟩
 |A5 hs he pq _ ih=>
  refine⟨fun yo n S0 l e hO fu=>?_,ih.2⟩;cases e;obtain rfl:=he.eq;cases hO with
  |ia hb hz=>rw[hb]at fu;cases fu;cases hs;exact⟨_,.Dk hz,by
   obtain⟨S1,h1,h2,_⟩:=ih.1 [] 1 [] [] (by simp) (by simp) (by simp) .nil;cases h1;exact h2⟩
  |bB hb hg hf ht eG hz hl he b6 iW hc=>
   rw[hb]at fu;cases fu;obtain⟨S1,h1,h2,h3,h4⟩:=ih.1 _ _ _ _ he b6 iW hc;have:=CR.bB (S:=S1) hg hf ht eG hz (by rw[hl,h4]) (fun e he=>(h3 e he).1) (h1.Io fun t ht=>by
    obtain⟨e,q1,q2⟩:=List.mem_flatten.1 ht;exact(h3 e q1).2 t q2)
   rw[h4]at this;exact⟨_,this.A5 pq,h2.cons _⟩
 |fW hs he _ ih=>
  refine⟨fun yo n S0 l e hO fu=>?_,ih.2⟩;cases e;obtain rfl:=he.eq;cases hO with
  |fW hb hg b6 hc bR=>
   rw[hb]at fu;cases fu;obtain⟨S1,h1,h2,h3⟩:=ih.1 _ _ _ _ b6 hc;exact⟨_,.fW hg (h1.Io h3) bR,h2.cons _⟩
 |eQ he=>
  obtain rfl:=he.eq;refine⟨fun yo n S0 l e hO fu=>?_,by simp⟩;cases e;cases hO with
  |eQ hb hg=>rw[hb]at fu;cases fu;exact⟨_,.eQ hg,p0 _⟩
 |Zb=>exact⟨fun S0 vs hv=>by cases hv;exact⟨[],.nil,by simp⟩,by simp⟩
 |Zc _ _ AQ AS=>
  rename_i U1 U2 a y l m _ _;refine⟨fun S0 vs hv=>?_,fun u hu=>(List.mem_append.1 hu).elim (AQ.2 u) (AS.2 u)⟩;have split:∃A B v oI,S0=A++B∧vs=v::oI∧da c ρ F h X.base A [a] [v]∧da c ρ F h X.base B l oI:=by
   cases hv with
   |vr h1 h2=>exact⟨[],_,_,_,rfl,rfl,.vr h1 .nil,h2⟩
   |cl h1 h2=>exact⟨_,_,_,_,rfl,rfl,by simpa using da.cl h1 .nil,h2⟩
  obtain⟨A,B,v,oI,rfl,rfl,h1,h2⟩:=split;obtain⟨A1,k1,k2⟩:=AQ.1 A v h1;obtain⟨B1,k3,k4⟩:=AS.1 B oI h2;refine⟨A1++B1,.cons k1 k3,(k2.append k4).trans ?_⟩;rw[List.flatMap_append];simp only[List.append_assoc];refine List.Perm.append_left _ ?_;rw[←List.append_assoc,←List.append_assoc];exact List.perm_append_comm.append_right _
 |kfz hv hf _ ih=>
  rename_i U1 a b l m _;refine⟨fun S0 vs rJ=>?_,ih.2⟩;have hpa:eR a=true:=by cases hv<;>first|rfl |simp[M.fz]at hf
  have split:∃v oI,vs=v::oI∧VR c ρ F h a v∧da c ρ F h X.base S0 l oI:=by
   cases rJ with
   |vr h1 h2=>exact⟨_,_,rfl,h1,h2⟩
   |cl h1 h2=>
    cases h1 with
    |fz hf1 pJ=>exact⟨_,_,rfl,pJ.dC hf1,h2⟩
    |own=>simp[eR]at hpa
  obtain⟨v,oI,rfl,h1,h2⟩:=split;obtain⟨S1,k1,k2⟩:=ih.1 S0 oI h2;exact⟨S1,.cons (S:=[]) (.fz hf ((qV (zf:=fun _=>0) H _ _ _ hv h1).dC hf)) k1,k2⟩
 |q0=>exact⟨fun es z cs S0 hz b6 _ hc=>⟨S0,hc,p0 S0,fun e he=>⟨hz e he,b6 e he⟩,rfl⟩,by simp⟩
 |q1 hL ih=>
  rename_i U1 i a b;refine⟨fun es z cs S0 hz b6 iW hc=>?_,ih.2⟩;obtain⟨k1,k2⟩:=iW (i,a) (by simp);simp only at k1 k2;obtain⟨f1,f2⟩:=hL.Iq _ _ rfl;have j6:∀e∈es.set i a,e.length=z:=fun e he=>by
   rcases List.mem_or_eq_of_mem_set he with h1|rfl
   ·exact hz e h1
   ·exact k2
  obtain⟨r1,r2⟩:=fy j6 (i:=i) (e:=a) (by simp[k1]);obtain⟨S1,q1,q2⟩:=da.Zh (l2:=b) (V:=U1.flatMap S) hc (i*z) z fun S2 h2=>by
   have e:((cZ es [(i,a)]).flatten.drop (i*z)).take z=a:=r1;rw[e]at h2;obtain⟨S3,h3,h4⟩:=ih.1 S2 _ h2;exact⟨S3,da.tX h3 _ _ rfl,h4⟩
  have e2:(cZ es [(i,b)]).flatten=(cZ es [(i,a)]).flatten.take (i*z)++(b++((cZ es [(i,a)]).flatten.drop (i*z)).drop z):=by
   have:=kx (e:=b) j6 (i:=i) (by simpa using k1);rw[List.set_set]at this;exact this
  rw[←e2]at q1;refine⟨S1,q1,q2,fun e he=>?_,by simp[cZ]⟩;rcases List.mem_or_eq_of_mem_set he with h1|rfl
  ·exact⟨hz e h1,b6 e h1⟩
  ·exact⟨om,f2⟩
 |q2 hik hL hR ih ihr=>
  rename_i U1 U2 i k a b a' b';refine⟨fun es z cs S0 hz b6 iW hc=>?_,fun u hu=>(List.mem_append.1 hu).elim (ih.2 u) (ihr.2 u)⟩;obtain⟨k1,k2⟩:=iW (i,a) (by simp);obtain⟨l1,l2⟩:=iW (k,a') (by simp);simp only at k1 k2 l1 l2;obtain⟨f1,f2⟩:=hL.Iq _ _ rfl;have hc:da c ρ F h X.base S0 ((es.set k a').set i a).flatten cs:=hc;have j6:∀e∈(es.set k a').set i a,e.length=z:=fun e he=>by
   rcases List.mem_or_eq_of_mem_set he with h1|rfl
   ·rcases List.mem_or_eq_of_mem_set h1 with h1|rfl
    ·exact hz e h1
    ·exact l2
   ·exact k2
  obtain⟨r1,r2⟩:=fy j6 (i:=i) (e:=a) (by simp[k1]);obtain⟨S1,q1,q2⟩:=da.Zh (l2:=b) (V:=U1.flatMap S) hc (i*z) z fun S2 h2=>by
   have e:(((es.set k a').set i a).flatten.drop (i*z)).take z=a:=r1;rw[e]at h2;obtain⟨S3,h3,h4⟩:=ih.1 S2 _ h2;exact⟨S3,da.tX h3 _ _ rfl,h4⟩
  have e2:((es.set k a').set i b).flatten=((es.set k a').set i a).flatten.take (i*z)++(b++(((es.set k a').set i a).flatten.drop (i*z)).drop z):=by
   have:=kx (e:=b) j6 (i:=i) (by simpa using k1);rw[List.set_set]at this;exact this
  rw[←e2,List.set_comm _ _ (fun e=>hik e.symm)]at q1;obtain⟨S2,w1,w2,w3,w4⟩:=ihr.1 (es.set i b) z cs S1 (fun e he=>by
   rcases List.mem_or_eq_of_mem_set he with h1|rfl
   ·exact hz e h1
   ·omega) (fun e he=>by
   rcases List.mem_or_eq_of_mem_set he with h1|rfl
   ·exact b6 e h1
   ·exact f2) (fun p hp=>by simp only[List.mem_singleton]at hp;subst hp;exact⟨by simpa using l1,l2⟩) q1
  have e4:cZ (es.set i b) [(k,b')]=cZ es [(i,b),(k,b')]:=List.set_comm _ _ hik;rw[e4]at w1 w3 w4;refine⟨S2,w1,?_,w3,by rw[w4];simp⟩;rw[List.flatMap_append,←List.append_assoc];exact w2.trans (q2.append_right _)
 |m0=>exact⟨fun es kd ev S0 b6 hc=>⟨S0,hc,p0 S0,b6⟩,by simp⟩
 |m1 ha hL ih=>
  rename_i U1 k a b;refine⟨fun es kd ev S0 b6 hc=>?_,ih.2⟩;obtain⟨f1,f2⟩:=hL.Iq _ _ rfl;obtain⟨S1,q1,q2⟩:=jh.put (c':=c) (ρ':=ρ) (V:=U1.flatMap S) ha (fun S2 x h2=>by
   obtain⟨S3,h3,h4⟩:=ih.1 S2 _ h2;exact⟨S3,da.tX h3 _ _ rfl,h4⟩) b6 hc
  refine⟨S1,q1,q2,fun e he=>?_⟩;rcases yL he with rfl |h1
  ·exact f2
  ·exact b6 e h1
theorem xK.rel (H:Mem X ρ F o c h) {S:Nat→Ft} (K:MO X ρ F o c h S) {U:List Nat} {a b:List TV} (L:xK ids o U a b):∀{S0:Ft} {vs:List Value},da c ρ F h X.base S0 a vs→(∃S1,da ids.length (fS ids zf ρ) F h X.base S1 b vs∧S1.Perm (S0++U.flatMap S))∧∀u∈U,∃y,look o u=some y:=by
 induction L with
 |nil=>intro S0 vs hv;cases hv;exact⟨⟨[],.nil,by simp⟩,by simp⟩
 |own hL _ ih=>
  rename_i U1 U2 a y l m _;intro S0 vs hv;have split:∃A B v oI,S0=A++B∧vs=v::oI∧da c ρ F h X.base A [a] [v]∧da c ρ F h X.base B l oI:=by
   cases hv with
   |vr h1 h2=>exact⟨[],_,_,_,rfl,rfl,.vr h1 .nil,h2⟩
   |cl h1 h2=>exact⟨_,_,_,_,rfl,rfl,by simpa using da.cl h1 .nil,h2⟩
  obtain⟨A,B,v,oI,rfl,rfl,h1,h2⟩:=split;obtain⟨g1,g2⟩:=hL.rel H K;obtain⟨A1,k1,k2⟩:=g1 A v h1;obtain⟨⟨B1,k3,k4⟩,g3⟩:=ih h2;refine⟨⟨A1++B1,.cl k1 k3,(k2.append k4).trans ?_⟩,fun u hu=>(List.mem_append.1 hu).elim (g2 u) (g3 u)⟩;rw[List.flatMap_append];simp only[List.append_assoc];refine List.Perm.append_left _ ?_;rw[←List.append_assoc,←List.append_assoc];exact List.perm_append_comm.append_right _
 |v hV hp _ ih=>
  rename_i U1 a b l m _;intro S0 vs hv;cases hv with
  |vr h1 h2=>
   obtain⟨⟨S1,k1,k2⟩,k3⟩:=ih h2;exact⟨⟨S1,.vr (qV H _ _ _ hV h1) k1,k2⟩,k3⟩
  |cl h1 h2=>
   cases h1 with
   |fz hf1 pJ=>
    obtain⟨⟨S1,k1,k2⟩,k3⟩:=ih h2;exact⟨⟨S1,.vr (qV H _ _ _ hV (pJ.dC hf1)) k1,k2⟩,k3⟩
   |own=>simp[eR]at hp
theorem xK.len {U:List Nat} {a b:List TV} (L:xK ids o U a b):a.length=b.length:=by
 induction L with
 |nil=>rfl
 |own _ _ ih=>simp[ih]
 |v _ _ _ ih=>simp[ih]
theorem lO:∀{ids:List (Option Nat)} {k m:Nat},jf c ids=true→ids[k]? =some (some m)→m<c
 |[],k,m,_,h=>by simp at h
 |none::l,k,m,hi,h=>by
  cases k with
  |zero=>simp at h
  |succ k=>exact lO (ids:=l) hi (by simpa using h)
 |some m'::l,k,m,hi,h=>by
  simp only[jf,Bool.and_eq_true,ba]at hi;cases k with
  |zero=>simp at h;subst h;exact hi.1.1
  |succ k=>exact lO (ids:=l) hi.2 (by simpa using h)
theorem nT:∀{ids:List (Option Nat)} {k k' m:Nat},jf c ids=true→ids[k]? =some (some m)→ids[k']? =some (some m)→k=k'
 |[],k,k',m,_,h,_=>by simp at h
 |none::l,k,k',m,hi,h,h'=>by
  cases k with
  |zero=>simp at h
  |succ k=>cases k' with
   |zero=>simp at h'
   |succ k'=>exact congrArg (· +1) (nT (ids:=l) hi (by simpa using h) (by simpa using h'))
 |some m'::l,k,k',m,hi,h,h'=>by
  simp only[jf,Bool.and_eq_true,ba,Bool.not_eq_true',List.contains_eq_mem]at hi;have hn:some m'∉l:=by simpa using hi.1.2
  cases k with
  |zero=>cases k' with
   |zero=>rfl
   |succ k'=>
    simp at h h';subst h;exact absurd (List.mem_of_getElem? h') hn
  |succ k=>cases k' with
   |zero=>
    simp at h h';subst h';exact absurd (List.mem_of_getElem? h) hn
   |succ k'=>exact congrArg (· +1) (nT (ids:=l) hi.2 (by simpa using h) (by simpa using h'))
theorem BG:∀{n k:Nat} {ids:List (Option Nat)},qd n k ids=true→∀i,i<n→ids[i]? =some (some (k+i))
 |0,k,ids,_,i,hi=>by omega
 |n+1,k,[],h,i,hi=>by simp[qd]at h
 |n+1,k,none::l,h,i,hi=>by simp[qd]at h
 |n+1,k,some m::l,h,i,hi=>by
  simp only[qd,Bool.and_eq_true,beq_iff]at h;obtain⟨rfl,h2⟩:=h;cases i with
  |zero=>simp
  |succ i=>
   have:=BG h2 i om;simp only[List.getElem?_cons_succ,this]
   congr 2;omega
def Lv:TO→Nat
 | .arr z _ _=>z
 | .bB z _ _=>z
 |_=>0
def Ir (o1:Ob) (n:Nat):Nat:=match look o1 n with|some y=>Lv y|none=>0
theorem lP {base z i:Nat} {S:Ft} {es:List (List TV)} {x:List TV} {cs:List Value} (hz:∀e∈es,e.length=z) (hi:i<es.length) (H:da c ρ F h base S (es.set i x).flatten cs):
 ∃S1 S2 S3 v1 v2 v3,S=S1++(S2++S3)∧cs=v1++(v2++v3)∧da c ρ F h base S1 (es.flatten.take (i*z)) v1∧da c ρ F h base S2 x v2∧da c ρ F h base S3 ((es.flatten.drop (i*z)).drop z) v3:=by
 rw[kx hz hi]at H;have h1:(es.flatten.take (i*z)).length=i*z:=by
  obtain⟨e,he⟩:∃e,es[i]? =some e:=⟨_,List.getElem?_eq_getElem hi⟩;have:=(fy hz he).2;rw[Nat.add_mul]at this;rw[List.length_take];omega
 obtain⟨S1,R,rfl,k1,k2⟩:=H.split (i*z);rw[List.take_append_of_le_length om,List.take_of_length_le om]at k1;rw[List.drop_append,List.drop_eq_nil_of_le om,h1,Nat.sub_self,List.drop_zero,List.nil_append]at k2;obtain⟨S2,S3,rfl,k3,k4⟩:=k2.split x.length;rw[List.take_append_of_le_length (Nat.le_refl _),List.take_of_length_le (Nat.le_refl _)]at k3;rw[List.drop_append,List.drop_eq_nil_of_le (Nat.le_refl _),Nat.sub_self,List.drop_zero,List.nil_append]at k4;exact⟨S1,S2,S3,_,_,_,rfl,by rw[List.take_append_drop,List.take_append_drop],k1,k3,k4⟩
theorem qW {base z i:Nat} {S1 S2 S3:Ft} {es:List (List TV)} {y:List TV} {v1 v2 v3:List Value} (hz:∀e∈es,e.length=z) (hi:i<es.length)
 (h1:da c ρ F h base S1 (es.flatten.take (i*z)) v1) (h2:da c ρ F h base S2 y v2) (h3:da c ρ F h base S3 ((es.flatten.drop (i*z)).drop z) v3):da c ρ F h base (S1++(S2++S3)) (es.set i y).flatten (v1++(v2++v3)):=by
 rw[kx hz hi];exact h1.join (h2.join h3)
theorem yM {es:List (List TV)} (b6:∀e∈es,∀t∈e,nP t=true):∀t∈es.flatten,nP t=true:=fun t ht=>by
 obtain⟨e,h1,h2⟩:=List.mem_flatten.1 ht;exact b6 e h1 t h2
theorem pO.R4 {t:TV} (h:fz t=true):pO ids o (.v t) (.v t):=by
 cases t with
 |s v=>exact .s Lz.rfl
 |sl z es fl=>exact .sl (by simp) (by simp) Lz.rfl
 |oB t v=>
  cases v with
  |s v=>exact .oB (.s Lz.rfl)
  |_=>simp[fz]at h
 |dc g a c=>
  cases a with
  |nil=>
   cases c with
   |nil=>exact .dc .nil .nil
   |cons=>simp[fz]at h
  |cons=>simp[fz]at h
 |_=>simp[fz]at h
theorem xK.J6:∀{l:List TV},(∀t∈l,nP t=true)→xK ids o [] l l
 |[],_=>.nil
 |t::l,h=>by
  have ht:=h t List.mem_cons_self;have ih:=xK.J6 fun x hx=>h x (List.mem_cons_of_mem _ hx);by_cases hq:eR t=true
  ·refine .v (pO.R4 ?_) hq ih;cases t<;>first|exact ht|(simp[eR]at hq)
  ·cases t with
   |own y=>exact .own (.same Lz.rfl) ih
   |_=>simp[eR]at hq
theorem xK.append {U:List Nat} {a b:List TV} (L:xK ids o U a b) {a' b':List TV} (L':xK ids o [] a' b'):xK ids o U (a++a') (b++b'):=by
 induction L with
 |nil=>exact L'
 |own h _ ih=>exact .own h ih
 |v h hp _ ih=>exact .v h hp ih
inductive pr (ids:List (Option Nat)) (o:Ob):List (List TV)→List (List TV)→Prop
 |nil:pr ids o [] []
 |cons {x y:List TV} {l m:List (List TV)} (h:xK ids o [] x y) (k:pr ids o l m):pr ids o (x::l) (y::m)
theorem pr.refl:∀{es:List (List TV)},(∀e∈es,∀t∈e,nP t=true)→pr ids o es es
 |[],_=>.nil
 |e::_,h=>.cons (xK.J6 (h e List.mem_cons_self)) (pr.refl fun x hx=>h x (List.mem_cons_of_mem _ hx))
theorem pr.set {l m:List (List TV)} (R:pr ids o l m) {x y:List TV} (h:xK ids o [] x y):∀i:Nat,pr ids o (l.set i x) (m.set i y):=by
 induction R with
 |nil=>intro i;exact .nil
 |cons h1 k ih=>
  intro i;cases i with
  |zero=>exact .cons h k
  |succ i=>exact .cons h1 (ih i)
theorem pr.flatten {l m:List (List TV)} (R:pr ids o l m):xK ids o [] l.flatten m.flatten:=by
 induction R with
 |nil=>exact .nil
 |cons h _ ih=>rw[List.flatten_cons,List.flatten_cons];exact h.append ih
theorem Bz.rows {op Ll:List (Nat×List TV)} (L:Bz ids o op Ll) {es:List (List TV)} (b6:∀e∈es,∀t∈e,nP t=true):pr ids o (cZ es op) (cZ es Ll)∧∀p∈Ll,∃x,(p.1,x)∈op∧x.length=p.2.length:=by
 induction L with
 |nil=>exact⟨.refl b6,by simp⟩
 |cons h _ ih=>
  refine⟨ih.1.set h _,fun p hp=>?_⟩;rcases List.mem_cons.1 hp with rfl |hp
  ·exact⟨_,List.mem_cons_self,h.len⟩
  ·obtain⟨x,q1,q2⟩:=ih.2 p hp;exact⟨x,List.mem_cons_of_mem _ q1,q2⟩
theorem EF.rel (H:Mem X ρ F o c h) {S:Nat→Ft} (K:MO X ρ F o c h S) {U:List Nat} {q:Option (Option TO)} {y:TO} (L:EF ids o U q y) {n:Nat} (hq:q=Dl ids o n) (Q4:zf n=Lv y):
 ∃S1,OR ids.length (fS ids zf ρ) F h X.base n S1 y∧((∃m,ids[n]? =some (some m)∧(∃y,look o m=some y)∧S1.Perm ((m::U).flatMap S))∨(S1=[]∧U=[]))∧∀u∈U,∃y,look o u=some y:=by
 have src:∀y0,some (some y0)=Dl ids o n→∃m,ids[n]? =some (some m)∧look o m=some y0:=by
  intro y0 hs;unfold Dl at hs;split at hs
  ·rename_i m hm;split at hs
   ·rename_i y1 hy;cases hs;exact⟨m,hm,hy⟩
   ·cases hs
  ·cases hs
  ·cases hs
 have isn:some none=Dl ids o n→ids[n]? =some none:=by
  intro hs;unfold Dl at hs;split at hs
  ·split at hs<;>cases hs
  ·assumption
  ·cases hs
 have fin:∀{U:List Nat} {y y0:TO},some (some y0)=Dl ids o n→(∀m S0,ids[n]? =some (some m)→look o m=some y0→fS ids zf ρ n=ρ m→OR c ρ F h X.base m S0 y0→∃S1,OR ids.length (fS ids zf ρ) F h X.base n S1 y∧S1.Perm (S0++U.flatMap S))→(∀u∈U,∃y,look o u=some y)→
  ∃S1,OR ids.length (fS ids zf ρ) F h X.base n S1 y∧((∃m,ids[n]? =some (some m)∧(∃y,look o m=some y)∧S1.Perm ((m::U).flatMap S))∨(S1=[]∧U=[]))∧∀u∈U,∃y,look o u=some y:=by
  intro U y y0 hs hf hU;obtain⟨m,h1,h2⟩:=src y0 hs;obtain⟨S1,k1,k2⟩:=hf m _ h1 h2 (by simp[fS,h1]) (K.ct m y0 h2);exact⟨S1,k1,.inl ⟨m,h1,⟨y0,h2⟩,by simpa using k2⟩,hU⟩
 have p0:∀(S0:Ft),S0.Perm (S0++([]:List Nat).flatMap S):=fun S0=>by simp
 have closed:∀{U:List Nat} {y y0:TO},some (some y0)=Dl ids o n→j8 o U (.b (some y0) y)→∃S1,OR ids.length (fS ids zf ρ) F h X.base n S1 y∧((∃m,ids[n]? =some (some m)∧(∃y,look o m=some y)∧S1.Perm ((m::U).flatMap S))∨(S1=[]∧U=[]))∧∀u∈U,∃y,look o u=some y:=by
  intro U y y0 hs hL;obtain⟨g1,g2⟩:=hL.rel H K;refine fin hs (fun m S0 h1 h2 fQ hO=>?_) g2;obtain⟨l,hl⟩:=hO.loc;obtain⟨S1,k1,k2⟩:=g1 y0 m S0 l rfl hO hl;exact⟨S1,OR.tX k1 (fQ.trans hl),k2⟩
 cases L with
 |cells hN=>
  obtain⟨m,h1,h2⟩:=src _ hq;have hO:=K.ct m _ h2;refine fin hq (fun m' S0 _ _ fQ VQ=>?_) ?_
  ·cases VQ with
   |cells hb hg ht hc=>
    obtain⟨⟨S1,k1,k2⟩,_⟩:=hN.rel (zf:=zf) H K hc;exact⟨_,.cells (fQ.trans hb) hg ht k1,k2.cons _⟩
  ·generalize S m=S0 at hO;cases hO with
   |cells hb hg ht hc=>exact(hN.rel (zf:=zf) H K hc).2
 |map he=>exact closed hq (.map he)
 |RY he=>exact closed hq (.RY he)
 |arr he=>exact closed hq (.arr he)
 |RZ he=>exact closed hq (.RZ he)
 |bB hs he hL=>exact closed hq (.bB hs he hL)
 |A5 hs he pq hL=>exact closed hq (.A5 hs he pq hL)
 |fW hs he hL=>exact closed hq (.fW hs he hL)
 |eQ he=>exact closed hq (.eQ he)
 |acq he hi hN=>
  rename_i z a b i j x w;obtain rfl:=he.eq;obtain rfl:=hi.eq;obtain⟨m,h1,h2⟩:=src _ hq;have hO:=K.ct m _ h2;refine fin hq (fun m' S0 _ _ fQ VQ=>?_) ?_
  ·cases VQ with
   |bB hb hg hf ht eG hz hl he b6 iW hc=>
    obtain⟨o1,o2⟩:=iW (i,x) (by simp);obtain⟨S1,S2,S3,v1,v2,v3,rfl,rfl,a1,a2,a3⟩:=lP he o1 hc;obtain⟨⟨S4,k1,k2⟩,_⟩:=hN.rel (zf:=zf) H K a2;have fc:=yM b6;have:=qW he o1 (a1.conv (c':=ids.length) (ρ':=fS ids zf ρ) fun t ht=>fc t (List.mem_of_mem_take ht)) k1 (a3.conv fun t ht=>fc t (List.mem_of_mem_drop (List.mem_of_mem_drop ht)));refine⟨_,.bB (fQ.trans hb) hg hf ht eG hz hl he b6 (fun p hp=>?_) this,?_⟩
    ·simp only[List.mem_singleton]at hp;subst hp;exact⟨o1,by rw[←hN.len];exact o2⟩
    ·refine List.Perm.cons _ ((List.Perm.append_left S1 (k2.append_right S3)).trans ?_);show List.Perm _ ((S1++(S2++S3))++U.flatMap S);simp only[List.append_assoc];exact(List.perm_append_comm.append_left _).append_left _
  ·generalize S m=S0 at hO;cases hO with
   |bB hb hg hf ht eG hz hl he b6 iW hc=>
    obtain⟨o1,o2⟩:=iW (i,x) (by simp);obtain⟨S1,S2,S3,v1,v2,v3,rfl,rfl,a1,a2,a3⟩:=lP he o1 hc;exact(hN.rel (zf:=zf) H K a2).2
 |acr he hk ha hN=>
  rename_i kd a b k k' x w;obtain rfl:=he.eq;obtain rfl:=hk.eq;obtain⟨m,h1,h2⟩:=src _ hq;have hO:=K.ct m _ h2;have hU:∀u∈U,∃y,look o u=some y:=by
   generalize S m=S0 at hO;cases hO with
   |fW hb hg b6 hc bR=>
    have key:∀{es:List (Value×TV)} {S0:Ft} {ev:List MapEntry},jh c ρ F h X.base kd S0 (dL es k x) ev→∃S2 vs,da c ρ F h X.base S2 (aI x) vs:=by
     intro es
     induction es with
     |nil=>intro S0 ev hE;cases hE with|cons _ _ _ hv _=>exact⟨_,_,hv⟩
     |cons e es ih=>
      intro S0 ev hE;unfold dL at hE;split at hE
      ·cases hE with|cons _ _ _ hv _=>exact⟨_,_,hv⟩
      ·cases hE with|cons _ _ _ _ hl=>exact ih hl
    obtain⟨S2,vs,hv⟩:=key hc;exact(hN.rel (zf:=zf) H K hv).2
  refine fin hq (fun m' S0 _ _ fQ VQ=>?_) hU;cases VQ with
  |fW hb hg b6 hc bR=>
   obtain⟨S1,q1,q2⟩:=jh.put (c':=ids.length) (ρ':=fS ids zf ρ) (V:=U.flatMap S) ha (fun S2 x h2=>(hN.rel (zf:=zf) H K h2).1) b6 hc;exact⟨_,.fW (fQ.trans hb) hg b6 q1 bR,q2.cons _⟩
 |Dm he hN=>
  rename_i z a b op Ll;obtain rfl:=he.eq;refine fin hq (fun m' S0 _ _ fQ VQ=>?_) (by simp);cases VQ with
  |bB hb hg hf ht eG hz hl he b6 iW hc=>
   obtain⟨r1,r2⟩:=hN.rows b6;obtain⟨⟨S1,k1,k2⟩,_⟩:=r1.flatten.rel (zf:=zf) H K hc;refine⟨_,.bB (fQ.trans hb) hg hf ht eG hz hl he b6 (fun p hp=>?_) k1,k2.cons _⟩;obtain⟨x,q1,q2⟩:=r2 p hp;obtain⟨w1,w2⟩:=iW _ q1;exact⟨w1,by rw[←q2];exact w2⟩
  |ia hb hz=>
   cases hN;exact⟨[],.ia (fQ.trans hb) hz,by simp⟩
 |new hz=>
  have hi:=isn hq;exact⟨[],.nil (by simp[fS,hi,Q4,Lv]) (ba.1 hz),.inr ⟨rfl,rfl⟩,by simp⟩
 |acs hz=>
  have hi:=isn hq;exact⟨[],.ia (by simp[fS,hi,Q4,Lv]) (ba.1 hz),.inr ⟨rfl,rfl⟩,by simp⟩
theorem BH:∀{l:List Nat},Dn l=true→l.Nodup
 |[],_=>List.nodup_nil
 |n::l,h=>by
  simp only[Dn,Bool.and_eq_true,Bool.not_eq_true',List.contains_eq_mem,decide_eq_false_iff_not]at h;exact List.nodup_cons.2 ⟨h.1,BH h.2⟩
theorem Lx {U:List Nat} (h:nu ids U=true):U.Nodup∧∀u∈U,∀k:Nat,ids[k]? ≠some (some u):=by
 simp only[nu,Bool.and_eq_true,List.all_eq_true,Bool.not_eq_true',List.contains_eq_mem,decide_eq_false_iff_not]at h;exact⟨BH h.1,fun u hu k hk=>h.2 u hu (List.mem_of_getElem? hk)⟩
theorem JY.VS (_:Mem X ρ F o c h) {S:Nat→Ft} (_:MO X ρ F o c h S) {U:List Nat} {o1:Ob} (L:JY ids o U o1):U.Nodup→∃Un:Nat→List Nat,(∀n,∀u∈Un n,u∈U)∧(∀n,(Un n).Nodup)∧(∀n1 n2 u,u∈Un n1→u∈Un n2→n1=n2)∧∀n y,look o1 n=some y→EF ids o (Un n) (Dl ids o n) y:=by
 induction L with
 |nil=>intro _;exact⟨fun _=>[],by simp,by simp,by simp,fun n y hl=>by cases hl⟩
 |cons hT _ ih=>
  rename_i U1 U2 m y l _;intro AG;obtain⟨n1,n2,n3⟩:=List.nodup_append.1 AG;obtain⟨Un,k1,k2,k3,k4⟩:=ih n2;refine⟨fun n=>if n=m then U1 else Un n,fun n u hu=>?_,fun n=>?_,fun a b u ha hb=>?_,fun n y' hl=>?_⟩
  ·by_cases e:n=m
   ·simp only[e,if_true]at hu;exact List.mem_append_left _ hu
   ·simp only[e,if_false]at hu;exact List.mem_append_right _ (k1 n u hu)
  ·by_cases e:n=m
   ·simp only[e,if_true];exact n1
   ·simp only[e,if_false];exact k2 n
  ·by_cases ea:a=m<;>by_cases eb:b=m
   ·rw[ea,eb]
   ·simp only[ea,if_true]at ha;simp only[eb,if_false]at hb;exact absurd rfl (n3 u ha u (k1 b u hb))
   ·simp only[ea,if_false]at ha;simp only[eb,if_true]at hb;exact absurd rfl (n3 u hb u (k1 a u ha))
   ·simp only[ea,if_false]at ha;simp only[eb,if_false]at hb;exact k3 a b u ha hb
  ·rw[aS]at hl;by_cases e:m=n
   ·rw[if_pos e]at hl;cases hl;subst e;simpa using hT
   ·rw[if_neg e]at hl;have:¬n=m:=fun e'=>e e'.symm;simp only[this,if_false];exact k4 n y' hl
structure Told (X:Cx) (ρ:Gh) (F:Nat→Prop) (o:Ob) (h:ab) (S:Nat→Ft) (ids:List (Option Nat)) (U:List Nat) (o1:Ob) (S1:Nat→Ft) (Ns:Nat→List Nat):Prop where
 ct:∀n y,look o1 n=some y→OR ids.length (fS ids (Ir o1) ρ) F h X.base n (S1 n) y
 perm:∀n y,look o1 n=some y→(S1 n).Perm ((Ns n).flatMap S)
 EG:∀n y,look o1 n=some y→(Ns n).Nodup
 gS:∀n y u,look o1 n=some y→u∈Ns n→∃y,look o u=some y
 Zj:∀n y u,look o1 n=some y→u∈Ns n→ids[n]? =some (some u)∨u∈U
 one:∀n1 n2 y1 y2 u,look o1 n1=some y1→look o1 n2=some y2→u∈Ns n1→u∈Ns n2→n1=n2
open Classical in
open Classical in
theorem JY.told (H:Mem X ρ F o c h) {S:Nat→Ft} (K:MO X ρ F o c h S) {U:List Nat} {o1:Ob} (L:JY ids o U o1) (hi:jf c ids=true) (hU:nu ids U=true):∃S1 Ns,Told X ρ F o h S ids U o1 S1 Ns:=by
 obtain⟨u1,u2⟩:=Lx hU;obtain⟨Un,k1,k2,k3,k4⟩:=L.VS H K u1;have each:∀n,∃(S1:Ft) (N:List Nat),∀y,look o1 n=some y→OR ids.length (fS ids (Ir o1) ρ) F h X.base n S1 y∧S1.Perm (N.flatMap S)∧N.Nodup∧(∀u∈N,∃y,look o u=some y)∧∀u∈N,ids[n]? =some (some u)∨u∈Un n:=by
  intro n;cases hl:look o1 n with
  |none=>exact⟨[],[],fun y hy=>by cases hy⟩
  |some y=>
   obtain⟨S1,h1,h2,h3⟩:=(k4 n y hl).rel (zf:=Ir o1) H K rfl (by simp[Ir,hl]);rcases h2 with⟨m,q1,q2,q3⟩|⟨rfl,q2⟩
   ·refine⟨S1,m::Un n,fun y' Zk=>?_⟩;cases Zk;refine⟨h1,q3,List.nodup_cons.2 ⟨fun hm=>u2 m (k1 n m hm) n q1,k2 n⟩,fun u hu=>?_,fun u hu=>?_⟩
    ·rcases List.mem_cons.1 hu with rfl |hu
     ·exact q2
     ·exact h3 u hu
    ·rcases List.mem_cons.1 hu with rfl |hu
     ·exact .inl q1
     ·exact .inr hu
   ·exact⟨[],[],fun y' Zk=>by cases Zk;exact⟨h1,by simp,by simp,by simp,by simp⟩⟩
 refine⟨fun n=>Classical.choose (each n),fun n=>Classical.choose (Classical.choose_spec (each n)),?_⟩;have sp:=fun n y (hl:look o1 n=some y)=>Classical.choose_spec (Classical.choose_spec (each n)) y hl;refine⟨fun n y hl=>(sp n y hl).1,fun n y hl=>(sp n y hl).2.1,fun n y hl=>(sp n y hl).2.2.1,fun n y u hl hu=>(sp n y hl).2.2.2.1 u hu,fun n y u hl hu=>((sp n y hl).2.2.2.2 u hu).imp id (k1 n u),fun a b y1 y2 u Is hlb ha hb=>?_⟩;rcases(sp a y1 Is).2.2.2.2 u ha with p|p<;>rcases(sp b y2 hlb).2.2.2.2 u hb with q|q
 ·exact nT hi p q
 ·exact absurd p (u2 u (k1 b u q) a)
 ·exact absurd q (u2 u (k1 a u p) b)
 ·exact k3 a b u p q
theorem Fz {S:Nat→Ft} {N:List Nat} {x:Nat}:x∈dS (N.flatMap S)↔∃u∈N,x∈dS (S u):=by
 unfold dS;simp only[List.mem_map,List.mem_flatMap];constructor
 ·rintro⟨p,⟨u,h1,h2⟩,h3⟩;exact⟨u,h1,p,h2,h3⟩
 ·rintro⟨u,h1,p,h2,h3⟩;exact⟨p,⟨u,h1,h2⟩,h3⟩
theorem MO.yN {S:Nat→Ft} (K:MO X ρ F o c h S):∀{N:List Nat},N.Nodup→(∀u∈N,∃y,look o u=some y)→(dS (N.flatMap S)).Nodup
 |[],_,_=>by simp[dS]
 |u::N,hn,hd=>by
  obtain⟨h1,h2⟩:=List.nodup_cons.1 hn;obtain⟨y,hy⟩:=hd u List.mem_cons_self;rw[List.flatMap_cons,qU];refine List.nodup_append.2 ⟨K.EG u y hy,K.yN h2 fun v hv=>hd v (List.mem_cons_of_mem _ hv),fun a ha b hb e=>?_⟩;subst e;obtain⟨v,hv,hx⟩:=Fz.1 hb;obtain⟨y',Zk⟩:=hd v (List.mem_cons_of_mem _ hv);have:=K.fO u v y y' a hy Zk ha hx;subst this;exact h1 hv
section
variable {S S1:Nat→Ft} {U:List Nat} {o1:Ob} {Ns:Nat→List Nat}
theorem Told.mem (D:Told X ρ F o h S ids U o1 S1 Ns) {n:Nat} {y:TO} (hl:look o1 n=some y) {x:Nat}:x∈dS (S1 n)↔∃u∈Ns n,x∈dS (S u):=by
 rw[←Fz];exact((D.perm n y hl).map _).mem_iff
theorem Told.Zm (D:Told X ρ F o h S ids U o1 S1 Ns) (K:MO X ρ F o c h S) {n:Nat} {y:TO} (hl:look o1 n=some y):(dS (S1 n)).Nodup:=
 ((D.perm n y hl).map _).nodup_iff.2 (K.yN (D.EG n y hl) fun u hu=>D.gS n y u hl hu)
theorem Told.fO (D:Told X ρ F o h S ids U o1 S1 Ns) (K:MO X ρ F o c h S) {n1 n2:Nat} {y1 y2:TO} {x:Nat} (h1:look o1 n1=some y1) (h2:look o1 n2=some y2) (k1:x∈dS (S1 n1)) (k2:x∈dS (S1 n2)):n1=n2:=by
 obtain⟨u,a1,a2⟩:=(D.mem h1).1 k1;obtain⟨v,b1,b2⟩:=(D.mem h2).1 k2;obtain⟨_,c1⟩:=D.gS _ _ _ h1 a1;obtain⟨_,c2⟩:=D.gS _ _ _ h2 b1;have:=K.fO u v _ _ x c1 c2 a2 b2;subst this;exact D.one _ _ _ _ _ h1 h2 a1 b1
theorem Told.fP (D:Told X ρ F o h S ids U o1 S1 Ns) (K:MO X ρ F o c h S) {n:Nat} {y:TO} {x:Nat} (hl:look o1 n=some y) (k:x∈dS (S1 n)):X.base≤x∧x<h.size∧(X.M x∨X.h0.size≤x):=by
 obtain⟨u,a1,a2⟩:=(D.mem hl).1 k;obtain⟨_,c1⟩:=D.gS _ _ _ hl a1;exact K.fP u _ x c1 a2
theorem Told.apart (D:Told X ρ F o h S ids U o1 S1 Ns) (K:MO X ρ F o c h S) {n:Nat} {y:TO} {x b:Nat} (hl:look o1 n=some y) (k:(x,true)∈S1 n) (hb:F b):hd h b≠x:=by
 have:=(D.perm n y hl).mem_iff.1 k;obtain⟨u,a1,a2⟩:=List.mem_flatMap.1 this;obtain⟨_,c1⟩:=D.gS _ _ _ hl a1;exact K.apart u _ x b c1 a2 hb
end
theorem yO (_:∀n l,ρ n=some l→n<c) {o1:Ob} {n:Nat} {l:Loc} (h:fS ids (Ir o1) ρ n=some l):n<ids.length:=by
 unfold fS at h;cases hq:ids[n]? with
 |none=>rw[hq]at h;cases h
 |some q=>exact sJ hq
theorem Mem.le (H:Mem X ρ F o c h) {U:List Nat} {o1:Ob} (hi:jf c ids=true) (hp:qd X.c0 0 ids=true) (hU:nu ids U=true) (hO:JY ids o U o1):
 Mem X (fS ids (Ir o1) ρ) F o1 ids.length h:=by
 obtain⟨S,K⟩:=H.ex;obtain⟨S1,Ns,D⟩:=hO.told H K hi hU;have pre:=BG hp;refine⟨⟨S1,D.ct,fun n y hl=>D.Zm K hl,fun n1 n2 y1 y2 x h1 h2=>D.fO K h1 h2,fun n y x hl=>D.fP K hl,fun n y x b hl=>D.apart K hl⟩,fun n l hn=>yO H.names hn,H.frozen,H.F0,H.wf,H.pP,H.mA,H.Dt,?_,fun k l hk hl=>?_,fun k b hk hb=>?_⟩
 ·rcases Nat.lt_or_ge ids.length X.c0 with h1|h1
  ·have:=sJ (pre ids.length h1);omega
  ·exact h1
 ·have:=pre k hk;rw[Nat.zero_add]at this;exact H.Du.2.1 k l hk (by simpa[fS,this]using hl)
 ·have:=pre k hk;rw[Nat.zero_add]at this;simp only[fS,this];exact H.Du.2.2 k b hk hb
theorem Mem.cO (sh:List Nat):∀{F:Nat→Prop} {o:Ob},Mem X ρ F o c h→∃F',Mem X ρ F' (M.cO sh o) c h∧(∀t v,VR c ρ F h t v→VR c ρ F' h t v)∧(∀b,F b→F' b):=by
 induction sh with
 |nil=>intro F o H;exact⟨F,H,fun _ _ h=>h,fun _ h=>h⟩
 |cons m sh ih=>
  intro F o H;obtain⟨F1,H1,m1,f1,_⟩:=H.share m;obtain⟨F2,H2,m2,f2⟩:=ih H1;exact⟨F2,H2,fun t v h=>m2 t v (m1 t v h),fun b h=>f2 b (f1 b h)⟩
end
def nw (S:Nat→Ft) (o:Ob):Nat→Prop:=fun x=>∃k y,look o k=some y∧x∈dS (S k)
def Iu (base:Nat) (ρ:Gh) (F:Nat→Prop) (o:Ob) (c:Nat) (h:ab) (S:Nat→Ft):Cx:=⟨base,h,nw S o,F,c,ρ⟩
def nU (T:Env) (F:Nat→Prop) (h:ab):Prop:=∀g cs,T.x6 g=some cs→F g∧h.rd g=some cs∧True
def Iv (T:Env) (X:Cx):Prop:=nU T X.F0 X.h0
theorem Iv.now {T:Env} {X:Cx} {ρ:Gh} {F:Nat→Prop} {o:Ob} {c:Nat} {h:ab} (N:Iv T X) (H:Mem X ρ F o c h):nU T F h:=fun g cs hg=>
 let⟨n1,n2,n3⟩:=N g cs hg
 ⟨H.F0 g n1,(H.pP.dn g n1).trans n2,n3⟩
def VC (E:Env):Ni:=fun g c args o R=>
 ∀(base:Nat) (ρ:Gh) (F:Nat→Prop) (h:ab) (S:Nat→Ft) (cq:List Value),nU E F h→Mem (Iu base ρ F o c h S) ρ F o c h→MO (Iu base ρ F o c h S) ρ F o c h S→dP c ρ F h args cq→
  ∃n v h' ρ' F' r o' c',iK E base n g cq h=some (v,h')∧R r o' c'∧Mem (Iu base ρ F o c h S) ρ' F' o' c' h'∧VR c' ρ' F' h' r v
theorem Evo.refl (M F0:Nat→Prop) (h:ab):Evo M F0 h h:=⟨Nat.le_refl _,fun _ _ _=>rfl,fun _ _=>rfl,fun _ _=>rfl⟩
section
variable {X:Cx} {ρ:Gh} {F:Nat→Prop} {o:Ob} {c:Nat} {h:ab} {ids:List (Option Nat)}
theorem Mem.hand (H:Mem X ρ F o c h) {S S1:Nat→Ft} {U:List Nat} {Ns:Nat→List Nat} (K:MO X ρ F o c h S) {o0:Ob} (D:Told X ρ F o h S ids U o0 S1 Ns):
 Mem (Iu X.base (fS ids (Ir o0) ρ) F o0 ids.length h S1) (fS ids (Ir o0) ρ) F o0 ids.length h∧MO (Iu X.base (fS ids (Ir o0) ρ) F o0 ids.length h S1) (fS ids (Ir o0) ρ) F o0 ids.length h S1:=by
 have M:MO (Iu X.base (fS ids (Ir o0) ρ) F o0 ids.length h S1) (fS ids (Ir o0) ρ) F o0 ids.length h S1:=
  ⟨D.ct,fun n y hl=>D.Zm K hl,fun n1 n2 y1 y2 x h1 h2=>D.fO K h1 h2,fun n y x hl hx=>⟨(D.fP K hl hx).1,(D.fP K hl hx).2.1,.inl ⟨n,y,hl,hx⟩⟩,fun n y x b hl=>D.apart K hl⟩
 exact⟨⟨⟨S1,M⟩,fun n l hn=>yO H.names hn,H.frozen,fun _ hb=>hb,H.wf,.refl _ _ _,H.mA,fun _ hb=>.inl hb,Nat.le_refl _,fun _ _ _ hl=>hl,fun _ _ _ hb=>hb⟩,M⟩
open Classical in
noncomputable def rL (ids:List (Option Nat)) (c:Nat) (ρ ρ':Gh):Gh:=fun n=>
 if hx:∃k:Nat,ids[k]? =some (some n)then ρ' (Classical.choose hx)else if n<c then ρ n else if(∃m:Nat,ids[n - c]? =some (some m))then none else ρ' (n - c)
theorem Iw {ρ':Gh} (hi:jf c ids=true) {k m:Nat} (hk:ids[k]? =some (some m)):rL ids c ρ ρ' m=ρ' k:=by
 unfold rL;have hx:∃k:Nat,ids[k]? =some (some m):=⟨k,hk⟩;rw[dif_pos hx,nT hi (Classical.choose_spec hx) hk]
theorem xO {ρ':Gh} {n:Nat} (hn:∀k:Nat,ids[k]? ≠some (some n)) (hc:n<c):rL ids c ρ ρ' n=ρ n:=by
 unfold rL;rw[dif_neg (fun⟨k,hk⟩=>hn k hk),if_pos hc]
theorem Oq {ρ':Gh} (hi:jf c ids=true) (k:Nat):rL ids c ρ ρ' (back ids c k)=ρ' k:=by
 unfold back;split
 ·rename_i m hm;exact Iw hi hm
 ·rename_i xn;unfold rL;rw[dif_neg,if_neg om,if_neg,Nat.add_sub_cancel_left]
  ·rintro⟨m,hm⟩;rw[Nat.add_sub_cancel_left]at hm;exact xn m hm
  ·rintro⟨k',kH⟩;have:=lO hi kH;omega
theorem yP (hi:jf c ids=true) {k k':Nat} (h:back ids c k=back ids c k'):k=k':=by
 unfold back at h;split at h
 ·rename_i m hm;split at h
  ·rename_i m' AJ;subst h;exact nT hi hm AJ
  ·have:=lO hi hm;omega
 ·split at h
  ·rename_i m' AJ;have:=lO hi AJ;omega
  ·omega
theorem R5 (hi:jf c ids=true) {k c':Nat} (hk:k<c'):back ids c k<c+c':=by
 unfold back;split
 ·rename_i m hm;have:=lO hi hm;omega
 ·omega
theorem nV (β:Nat→Nat):∀(l:List TV) (i:Nat),(TV.im β l)[i]? =(l[i]?).map (TV.nr β)
 |[],i=>by simp[TV.im]
 |v::l,i=>by
  cases i with
  |zero=>simp[TV.im]
  |succ i=>simp[TV.im,nV β l i]
theorem gH (β:Nat→Nat):∀(l:List TV),(TV.im β l).length=l.length
 |[]=>rfl
 |v::l=>by simp[TV.im,gH β l]
theorem VR.nr {c' cc:Nat} {ρ' Nk:Gh} {F':Nat→Prop} {h':ab} {β:Nat→Nat} (Dz:∀k,k<c'→β k<cc) (fQ:∀k,Nk (β k)=ρ' k) {t:TV} {x:Value} (H:VR c' ρ' F' h' t x):VR cc Nk F' h' (t.nr β) x:=by
 induction H with
 |j v=>exact .j v
 |s hp=>exact .s hp
 |nil he=>exact .nil he
 |sl h1 h2 h3 h4 h5 h6 h7 h8 h9 hc _=>exact .sl h1 h2 h3 h4 h5 h6 h7 h8 h9 fun i j e t v q1 q2 q3=>(hc i j e t v q1 q2 q3).dC (h9 e (List.mem_of_getElem? q1) t (List.mem_of_getElem? q2))
 |tk hn lx ha h0=>exact .tk (Dz _ hn) lx (fun b z len hx=>ha b z len (by rw[←fQ];exact hx)) (fun z hx=>h0 z (by rw[←fQ];exact hx))
 |ptr hb=>exact .ptr (by rw[fQ];exact hb)
 |ep h1 h2 h3 h4 hc _=>exact .ep h1 h2 h3 h4 fun j t v q1 q2=>(hc j t v q1 q2).dC (h4 t (List.mem_of_getElem? q1))
 |wp hn lx ha h0=>exact .wp (Dz _ hn) lx (fun b z len hx=>ha b z len (by rw[←fQ];exact hx)) (fun z hx=>h0 z (by rw[←fQ];exact hx))
 |mp hb=>exact .mp (by rw[fQ];exact hb)
 |bg hb=>exact .bg (by rw[fQ];exact hb)
 |sv hn lx ha h0=>exact .sv (Dz _ hn) lx (fun b z len hx=>ha b z len (by rw[←fQ];exact hx)) (fun z hx=>h0 z (by rw[←fQ];exact hx))
 |pv hn lx ha h0=>exact .pv (Dz _ hn) lx (fun b z len hx=>ha b z len (by rw[←fQ];exact hx)) (fun z hx=>h0 z (by rw[←fQ];exact hx))
 |agg hs _ ih=>
  refine .agg (by rw[gH];exact hs) fun i t v q1 q2=>?_;rw[nV,Option.map_eq_some_iff]at q1;obtain⟨t0,q3,rfl⟩:=q1;exact ih i t0 v q3 q2
 |dk hs _ ih=>
  refine .dk (by rw[gH];exact hs) fun i t v q1 q2=>?_;rw[nV,Option.map_eq_some_iff]at q1;obtain⟨t0,q3,rfl⟩:=q1;exact ih i t0 v q3 q2
 |oB _ ih=>exact .oB ih
 |dc hs _ ht _ AQ AS=>
  refine .dc (by rw[gH];exact hs) (fun i t v q1 q2=>?_) (by rw[gH];exact ht) (fun i t v q1 q2=>?_)
  ·rw[nV,Option.map_eq_some_iff]at q1;obtain⟨t0,q3,rfl⟩:=q1;exact AQ i t0 v q3 q2
  ·rw[nV,Option.map_eq_some_iff]at q1;obtain⟨t0,q3,rfl⟩:=q1;exact AS i t0 v q3 q2
theorem dP.nr {c' cc:Nat} {ρ' Nk:Gh} {F':Nat→Prop} {h':ab} {β:Nat→Nat} (Dz:∀k,k<c'→β k<cc) (fQ:∀k,Nk (β k)=ρ' k) {l:List TV} {m:List Value} (H:dP c' ρ' F' h' l m):dP cc Nk F' h' (TV.im β l) m:=by
 refine⟨by rw[gH];exact H.1,fun i t v q1 q2=>?_⟩;rw[nV,Option.map_eq_some_iff]at q1;obtain⟨t0,q3,rfl⟩:=q1;exact(H.2 i t0 v q3 q2).nr Dz fQ
theorem Ot (β:Nat→Nat) {t:TV} (hf:fz t=true):t.nr β=t:=by
 unfold fz at hf;split at hf<;>first|rfl |(simp[TV.nr];done)|(simp[TV.nr,TV.im];done)|cases hf
theorem Ou (β:Nat→Nat) {t:TV} (hf:nP t=true):t.nr β=t:=by
 unfold nP at hf;split at hf
 ·simp[TV.nr]
 ·exact Ot β hf
theorem yQ (β:Nat→Nat):∀{l:List TV},(∀t∈l,nP t=true)→TV.im β l=l
 |[],_=>rfl
 |t::l,h=>by simp only[TV.im];rw[Ou β (h t List.mem_cons_self),yQ β fun t ht=>h t (List.mem_cons_of_mem _ ht)]
theorem FA (β:Nat→Nat) (a b:List TV):TV.im β (a++b)=TV.im β a++TV.im β b:=by
 induction a with
 |nil=>rfl
 |cons t l ih=>simp[TV.im,ih]
theorem DA (β:Nat→Nat) (l:List (List TV)):TV.im β l.flatten=(l.map (TV.im β)).flatten:=by
 induction l with
 |nil=>rfl
 |cons t l ih=>simp[FA,ih]
theorem FB (β:Nat→Nat) {es:List (List TV)} (b6:∀e∈es,∀t∈e,nP t=true):∀op,cZ es (yH β op)=(cZ es op).map (TV.im β)
 |[]=>by
  show es=es.map (TV.im β);refine List.ext_getElem? fun i=>?_;rw[List.getElem?_map];cases he:es[i]? with
  |none=>rfl
  |some e=>simp[yQ β (b6 e (List.mem_of_getElem? he))]
 |p::l=>by
  show(cZ es (yH β l)).set p.1 (TV.im β p.2)=((cZ es l).set p.1 p.2).map (TV.im β);rw[FB β b6 l,List.map_set]
theorem FC (f:TV→TV) (k:Value) (v:TV):∀es:List (Value×TV),(dL es k v).map (fun e=>(e.1,f e.2))=dL (es.map fun e=>(e.1,f e.2)) k (f v)
 |[]=>rfl
 |e::es=>by
  simp only[dL,List.map_cons];cases mR k e.1 with
  |true=>rfl
  |false=>simp[FC f k v es]
theorem BI (β:Nat→Nat) (v:TV):aI (v.nr β)=TV.im β (aI v)∧dz (v.nr β)=dz v:=by
 cases v<;>simp[TV.nr,aI,dz,TV.im]
theorem R6 (β:Nat→Nat) {v:TV} (h:∀t∈aI v,nP t=true):v.nr β=v:=by
 cases v with
 |agg cs=>
  have e:TV.im β cs=cs:=yQ β h;simp only[TV.nr,e]
 |_=>exact Ou β (h _ (by simp[aI]))
theorem J7 (β:Nat→Nat) {es:List (Value×TV)} (b6:∀e∈es,∀t∈aI e.2,nP t=true):∀op,Oi es (JZ β op)=(Oi es op).map fun e=>(e.1,e.2.nr β)
 |[]=>by
  show es=es.map fun e=>(e.1,e.2.nr β);refine List.ext_getElem? fun i=>?_;rw[List.getElem?_map];cases he:es[i]? with
  |none=>rfl
  |some e=>simp[R6 β (b6 e (List.mem_of_getElem? he))]
 |p::l=>by
  show dL (Oi es (JZ β l)) p.1 (p.2.nr β)=(dL (Oi es l) p.1 p.2).map fun e=>(e.1,e.2.nr β);rw[J7 β b6 l,FC]
section
variable {c' cc:Nat} {ρ' Nk:Gh} {F':Nat→Prop} {h':ab} {β:Nat→Nat} {base:Nat} {S:Ft}
theorem da.nr (Dz:∀k,k<c'→β k<cc) (fQ:∀k,Nk (β k)=ρ' k) {l:List TV} {m:List Value} (H:da c' ρ' F' h' base S l m):da cc Nk F' h' base S (TV.im β l) m:=by
 induction H with
 |nil=>exact .nil
 |vr hv _ ih=>exact .vr (hv.nr Dz fQ) ih
 |cl hv _ ih=>
  rename_i t v l m _;have:t.nr β=t:=by
   cases hv with
   |fz hf _=>exact Ot β hf
   |own=>simp[TV.nr]
  simp only[TV.im];rw[this];exact .cl hv ih
theorem jh.nr (Dz:∀k,k<c'→β k<cc) (fQ:∀k,Nk (β k)=ρ' k) {kd:Nat} {l:List (Value×TV)} {m:List MapEntry} (H:jh c' ρ' F' h' base kd S l m):jh cc Nk F' h' base kd S (l.map fun e=>(e.1,e.2.nr β)) m:=by
 induction H with
 |nil=>exact .nil
 |cons hk j5 ha hv _ ih=>
  exact .cons hk j5 ((BI β _).2.trans ha) (by rw[(BI β _).1];exact hv.nr Dz fQ) ih
theorem OR.nr {k:Nat} (Dz:∀k,k<c'→β k<cc) (fQ:∀k,Nk (β k)=ρ' k) {y:TO} (H:OR c' ρ' F' h' base k S y):OR cc Nk F' h' base (β k) S (y.nr β):=by
 cases H with
 |cells hb hg ht hc=>exact .cells ((fQ k).trans hb) hg ht (hc.nr Dz fQ)
 |map hb hg hl hc bR=>exact .map ((fQ k).trans hb) hg hl (fun i e e' q1 q2=>let⟨r1,r2,r3,r4⟩:=hc i e e' q1 q2;⟨r1,r2,r3,r4.xL r3⟩) bR
 |nil hb hz=>exact .nil ((fQ k).trans hb) hz
 |arr hb hg hf ht eG hz hlen he iz hc hF=>exact .arr ((fQ k).trans hb) hg hf ht eG hz hlen he iz (fun i j e t v q1 q2 q3=>(hc i j e t v q1 q2 q3).dC (iz e (List.mem_of_getElem? q1) t (List.mem_of_getElem? q2))) hF
 |ia hb hz=>exact .ia ((fQ k).trans hb) hz
 |bB hb hg hf ht eG hz hlen he b6 iW hc=>
  refine .bB ((fQ k).trans hb) hg hf ht eG hz hlen he b6 (fun p hp=>?_) (by rw[FB β b6,←DA];exact hc.nr Dz fQ);have key:∀op:List (Nat×List TV),p∈yH β op→∃q∈op,p.1=q.1∧p.2.length=q.2.length:=by
   intro op
   induction op with
   |nil=>intro h;simp[yH]at h
   |cons q l ih=>
    intro h;simp only[yH,List.mem_cons]at h;rcases h with rfl |h
    ·exact⟨q,List.mem_cons_self,rfl,gH β _⟩
    ·obtain⟨q',h1,h2⟩:=ih h;exact⟨q',List.mem_cons_of_mem _ h1,h2⟩
  obtain⟨q,h1,h2,h3⟩:=key _ hp;rw[h2,h3];exact iW q h1
 |fW hb hg b6 hc bR=>exact .fW ((fQ k).trans hb) hg b6 (by rw[J7 β b6];exact hc.nr Dz fQ) bR
 |eQ hb hg=>exact .eQ ((fQ k).trans hb) hg
end
theorem vq {β:Nat→Nat} (Dz:∀k k',β k=β k'→k=k'):∀{o:Ob} {n:Nat} {y:TO},look (Il β o) n=some y→∃k y0,n=β k∧look o k=some y0∧y=y0.nr β
 |[],n,y,h=>by cases h
 |p::l,n,y,h=>by
  simp only[Il]at h;rw[aS]at h;split at h
  ·rename_i e;cases h;exact⟨p.1,p.2,e.symm,by rw[aS,if_pos rfl],rfl⟩
  ·rename_i e;obtain⟨k,y0,rfl,h2,h3⟩:=vq Dz h;refine⟨k,y0,rfl,?_,h3⟩;rw[aS,if_neg (fun e2=>e (by rw[e2]))];exact h2
theorem oV:∀{ids:List (Option Nat)} {o:Ob} {n:Nat} {y:TO},look (lf ids o) n=some y→look o n=some y∧∀k:Nat,ids[k]? ≠some (some n)
 |[],o,n,y,h=>⟨h,fun k=>by simp⟩
 |none::l,o,n,y,h=>by
  obtain⟨h1,h2⟩:=oV (ids:=l) h;refine⟨h1,fun k=>?_⟩;cases k with
  |zero=>simp
  |succ k=>simpa using h2 k
 |some m::l,o,n,y,h=>by
  obtain⟨h1,h2⟩:=oV (ids:=l) h;rw[dM]at h1;by_cases e:n=m
  ·rw[if_pos e]at h1;cases h1
  ·rw[if_neg e]at h1;refine⟨h1,fun k=>?_⟩;cases k with
   |zero=>simp;exact fun e2=>e e2.symm
   |succ k=>simpa using h2 k
theorem yR:∀{U:List Nat} {o:Ob} {n:Nat} {y:TO},look (wE U o) n=some y→look o n=some y∧n∉U
 |[],o,n,y,h=>⟨h,by simp⟩
 |m::l,o,n,y,h=>by
  obtain⟨h1,h2⟩:=yR (U:=l) h;rw[dM]at h1;by_cases e:n=m
  ·rw[if_pos e]at h1;cases h1
  ·rw[if_neg e]at h1;exact⟨h1,by simp[e,h2]⟩
open Classical in
theorem Mem.merge (H:Mem X ρ F o c h) {S S1:Nat→Ft} {U:List Nat} {Ns:Nat→List Nat} (K0:MO X ρ F o c h S) {o0:Ob} (hi:jf c ids=true) (D:Told X ρ F o h S ids U o0 S1 Ns) {ρ':Gh} {F':Nat→Prop} {o':Ob} {c':Nat} {h':ab}
 (K:Mem (Iu X.base (fS ids (Ir o0) ρ) F o0 ids.length h S1) ρ' F' o' c' h'):
 Mem X (rL ids c ρ ρ') F' (Il (back ids c) o'++wE U (lf ids o)) (c+c') h'∧(∀t v,VR c ρ F h t v→VR (c+c') (rL ids c ρ ρ') F' h' t v)∧(∀t v,VR c' ρ' F' h' t v→VR (c+c') (rL ids c ρ ρ') F' h' (t.nr (back ids c)) v)∧
  ∀n y,look o n=some y→(∀k:Nat,ids[k]? ≠some (some n))→n∉U→∀x∈dS (S n),¬nw S1 o0 x:=by
 obtain⟨S',KO⟩:=K.ex;have hA:∀n l,n<c→rL ids c ρ ρ' n=some l→ρ n=some l:=fun n l hn hl=>by
  by_cases hx:∃k:Nat,ids[k]? =some (some n)
  ·obtain⟨k,hk⟩:=hx;rw[Iw hi hk]at hl;have:=K.Du.2.1 k l (sJ hk) hl;simpa[Iu,fS,hk]using this
  ·rwa [xO (fun k hk=>hx ⟨k,hk⟩) hn]at hl
 have hB:∀n b,ρ n=some (.dw b)→rL ids c ρ ρ' n=some (.dw b):=fun n b hb=>by
  by_cases hx:∃k:Nat,ids[k]? =some (some n)
  ·obtain⟨k,hk⟩:=hx;rw[Iw hi hk];exact K.Du.2.2 k b (sJ hk) (by simpa[Iu,fS,hk]using hb)
  ·rw[xO (fun k hk=>hx ⟨k,hk⟩) (H.names _ _ hb)];exact hb
 have Dz:=fun k (hk:k<c')=>R5 hi hk;have fQ:=fun k=>Oq (ρ:=ρ) (ρ':=ρ') hi k;have dn:∀b cs,F b→h.rd b=some cs→h'.rd b=some cs:=fun b cs hb hr=>by rw[K.pP.dn b hb];exact hr
 have rV:∀b,F b→F' b:=fun b hb=>K.F0 b hb;have hm:∀t v,VR c ρ F h t v→VR (c+c') (rL ids c ρ ρ') F' h' t v:=fun t v=>VR.mono om hA hB rV dn;have gB:h.size≤h'.size:=K.pP.size
 -- families that the call may have changed
 have hM:∀x,nw S1 o0 x→∃(u:Nat) (y:TO),((∃k:Nat,ids[k]? =some (some u))∨u∈U)∧look o u=some y∧x∈dS (S u):=by
  rintro x ⟨k,y,hl,hh⟩;obtain⟨u,h1,h2⟩:=(D.mem hl).1 hh;obtain⟨y',h3⟩:=D.gS _ _ _ hl h1;exact⟨u,y',(D.Zj _ _ _ hl h1).imp (fun h=>⟨_,h⟩) id,h3,h2⟩
 have hMX:∀x,nw S1 o0 x→X.M x∨X.h0.size≤x:=fun x hx=>by
  obtain⟨u,y,_,h2,h3⟩:=hM x hx;exact(K0.fP u y x h2 h3).2.2
 have same:∀b,b<h.size→¬nw S1 o0 (hd h b)→h'.get b=h.get b:=fun b hb hx=>K.pP.bA b hb hx;have out:∀n y,look o n=some y→(∀k:Nat,ids[k]? ≠some (some n))→n∉U→∀x∈dS (S n),¬nw S1 o0 x:=by
  intro n y hl h1 h2 x hx hy;obtain⟨u,y',q1,q2,q3⟩:=hM x hy;have:=K0.fO n u y y' x hl q2 hx q3;subst this;rcases q1 with⟨k,q1⟩|q1
  ·exact h1 k q1
  ·exact h2 q1
 let S2:Nat→Ft:=fun n=>if hx:∃k y0,n=back ids c k∧look o' k=some y0 then S' (Classical.choose hx)else S n
 have s2a:∀k y0,look o' k=some y0→S2 (back ids c k)=S' k:=fun k y0 hl=>by
  have hx:∃k' y0,back ids c k=back ids c k'∧look o' k'=some y0:=⟨k,y0,rfl,hl⟩;simp only[S2];rw[dif_pos hx];obtain⟨_,h1,_⟩:=Classical.choose_spec hx;rw[yP hi h1.symm]
 have mB:∀n y,look (Il (back ids c) o'++wE U (lf ids o)) n=some y→
  (∃k y0,n=back ids c k∧look o' k=some y0∧y=y0.nr (back ids c)∧S2 n=S' k)∨
  (look o n=some y∧(∀k:Nat,ids[k]? ≠some (some n))∧n∉U∧S2 n=S n):=by
  intro n y hl;rw[ku]at hl;split at hl
  ·rename_i y1 h1;cases hl;obtain⟨k,y0,rfl,h2,rfl⟩:=vq (fun k k'=>yP hi) h1;exact .inl ⟨k,y0,rfl,h2,rfl,s2a k y0 h2⟩
  ·rename_i xn;obtain⟨h1,h2⟩:=yR hl;obtain⟨h3,h4⟩:=oV h1;refine .inr ⟨h3,h4,h2,?_⟩;simp only[S2];rw[dif_neg];rintro⟨k,y0,rfl,hk⟩;have Hy:=H.lt h3;unfold back at h4 Hy;split at Hy
   ·rename_i m hm;rw[hm]at h4;exact h4 k hm
   ·omega
 have old:∀n y,look o n=some y→(∀k:Nat,ids[k]? ≠some (some n))→n∉U→OR (c+c') (rL ids c ρ ρ') F' h' X.base n (S n) y:=fun n y hl h1 h2=>
  (K0.ct n y hl).bA (T:=nw S1 o0) H.wf same (out n y hl h1 h2) rV dn hm (xO h1 (H.lt hl))
 -- a family of the call's is none of the others
 have apart:∀k y0 x,look o' k=some y0→x∈dS (S' k)→nw S1 o0 x∨h.size≤x:=fun k y0 x hl hh=>(KO.fP k y0 x hl hh).2.2;refine⟨⟨⟨S2,fun n y hl=>?_,fun n y hl=>?_,fun n1 n2 y1 y2 x h1 h2 k1 k2=>?_,fun n y x hl hh=>?_,fun n y x b hl hs hb=>?_⟩,fun n l hn=>?_,fun b hb=>K.frozen b hb,fun b hb=>rV b (H.F0 b hb),K.wf,⟨Nat.le_trans H.pP.size gB,fun b hb hMb=>?_,fun b hb=>?_,fun b hb=>?_⟩,Nat.le_trans H.mA gB,fun b hb=>?_,?_,fun k l hk hl=>?_,fun k b hk hb=>?_⟩,hm,fun t v=>VR.nr Dz fQ,out⟩
 ·rcases mB n y hl with⟨k,y0,rfl,h1,rfl,h2⟩|⟨h1,h2,h3,h4⟩
  ·rw[h2];exact(KO.ct k y0 h1).nr Dz fQ
  ·rw[h4];exact old n y h1 h2 h3
 ·rcases mB n y hl with⟨k,y0,rfl,h1,rfl,h2⟩|⟨h1,h2,h3,h4⟩
  ·rw[h2];exact KO.EG k y0 h1
  ·rw[h4];exact K0.EG n y h1
 ·rcases mB n1 y1 h1 with⟨k,z1,rfl,a1,_,e1⟩|⟨a1,f1,g1,e1⟩<;>rcases mB n2 y2 h2 with⟨k',z2,rfl,a2,_,e2⟩|⟨a2,f2,g2,e2⟩
  ·rw[e1]at k1;rw[e2]at k2;rw[KO.fO k k' z1 z2 x a1 a2 k1 k2]
  ·rw[e1]at k1;rw[e2]at k2;rcases apart _ _ _ a1 k1 with h3|h3
   ·exact absurd h3 (out _ _ a2 f2 g2 x k2)
   ·have:=(K0.fP _ _ _ a2 k2).2.1;omega
  ·rw[e1]at k1;rw[e2]at k2;rcases apart _ _ _ a2 k2 with h3|h3
   ·exact absurd h3 (out _ _ a1 f1 g1 x k1)
   ·have:=(K0.fP _ _ _ a1 k1).2.1;omega
  ·rw[e1]at k1;rw[e2]at k2;exact K0.fO _ _ _ _ x a1 a2 k1 k2
 ·rcases mB n y hl with⟨k,z1,rfl,a1,_,e1⟩|⟨a1,_,_,e1⟩
  ·rw[e1]at hh;obtain⟨q1,q2,q3⟩:=KO.fP _ _ _ a1 hh;refine⟨q1,q2,?_⟩;rcases q3 with q3|q3
   ·exact hMX x q3
   ·exact .inr (Nat.le_trans H.pP.size q3)
  ·rw[e1]at hh;obtain⟨q1,q2,q3⟩:=K0.fP _ _ _ a1 hh;exact⟨q1,Nat.lt_of_lt_of_le q2 gB,q3⟩
 ·rcases mB n y hl with⟨k,z1,rfl,a1,e0,e1⟩|⟨a1,f1,g1,e1⟩
  ·rw[e1]at hs;exact KO.apart k z1 x b a1 hs hb
  ·rw[e1]at hs;have Nb:=(K0.fP _ _ _ a1 (eB hs)).2.1;intro e;rcases K.Dt b hb with h3|h3|h3
   ·have EH:F b:=h3;rw[K.pP.dS b (H.Lq EH)]at e;exact K0.apart _ _ _ b a1 hs EH e
   ·rw[e]at h3;exact out _ _ a1 f1 g1 x (eB hs) h3
   ·rw[e]at h3;have:h.size≤x:=h3;omega
 ·by_cases hx:∃k:Nat,ids[k]? =some (some n)
  ·obtain⟨k,hk⟩:=hx;have:=lO hi hk;omega
  ·rcases Nat.lt_or_ge n c with h1|h1
   ·omega
   ·have Yd:¬∃m:Nat,ids[n - c]? =some (some m):=fun⟨m,hm⟩=>by
     simp only[rL]at hn;rw[dif_neg hx,if_neg om,if_pos ⟨m,hm⟩]at hn;cases hn
    simp only[rL]at hn;rw[dif_neg hx,if_neg om,if_neg Yd]at hn;have:=K.names _ _ hn;omega
 ·have h1:=H.pP.bA b hb hMb;have h2:=H.pP.dS b hb;rw[same b (Nat.lt_of_lt_of_le hb H.pP.size) ?_,h1];intro hx;rw[h2]at hx;rcases hMX _ hx with k|k
  ·exact hMb k
  ·have:=H.wf.J2 b;rw[h2]at this;omega
 ·have:=H.F0 b hb;exact(K.pP.dn b this).trans (H.pP.dn b hb)
 ·exact(K.pP.dS b (Nat.lt_of_lt_of_le hb H.pP.size)).trans (H.pP.dS b hb)
 ·rcases K.Dt b hb with h3|h3|h3
  ·have EH:F b:=h3;rw[K.pP.dS b (H.Lq EH)];exact H.Dt b EH
  ·exact .inr (hMX _ h3)
  ·exact .inr (.inr (Nat.le_trans H.pP.size h3))
 ·have:=H.Du.1;omega
 ·exact H.Du.2.1 k l hk (hA k l (Nat.lt_of_lt_of_le hk H.Du.1) hl)
 ·exact hB k b (H.Du.2.2 k b hk hb)
end
end Go.M
namespace Go.M
open Go
def FD (run run':AP):Prop:=∀c f h r,run c f h=some r→run' c f h=some r
def yS (cf Q5:fg):Prop:=∀g a h r,cf g a h=some r→Q5 g a h=some r
def xP (rf Q6:eg):Prop:=∀l a h r,rf l a h=some r→Q6 l a h=some r
section
variable {E:Env} {base:Nat}
theorem qX {run run':AP} (H:FD run run'):yS (fY E base run) (fY E base run'):=by
 intro g a h r hr;unfold fY at hr ⊢;simp only[Option.bind_eq_some_iff]at hr ⊢;obtain⟨fn,h1,h2⟩:=hr;refine⟨fn,h1,?_⟩;split at h2
 ·rename_i q hq;simpa[hq]using h2
 ·rename_i hq;simp only[Option.bind_eq_some_iff,aj]at h2 ⊢;obtain⟨c,h3,h4,h5⟩:=h2;refine⟨c,h3,h4,?_⟩;split at h5
  ·rename_i f' h' hx;rw[H _ _ _ _ hx];exact h5
  ·rename_i f' h' hx;rw[H _ _ _ _ hx];exact h5
  ·cases h5
theorem yT {run run':AP} (H:FD run run'):xP (iw base run) (iw base run'):=by
 intro l a h r hr;unfold iw at hr ⊢;rw[aj]at hr ⊢;refine⟨hr.1,?_⟩;obtain⟨_,hr⟩:=hr;split at hr
 ·rename_i p f ps jX body hg;rw[aj]at hr ⊢;refine⟨hr.1,?_⟩;obtain⟨_,hr⟩:=hr;split at hr
  ·rename_i f1 h1 hx;rw[H _ _ _ _ hx];simp only
   split at hr
   ·rename_i p1 f0 Hu rG kP yc;simp only[Option.bind_eq_some_iff]at hr ⊢;obtain⟨q,h2,h3⟩:=hr;exact⟨q,H _ _ _ _ h2,h3⟩
   ·cases hr
  ·cases hr
 ·cases hr
theorem FE {cf Q5:fg} {rf Q6:eg} (H:yS cf Q5) (G:xP rf Q6) {o:Oper} {f:AF} {h:ab} {r:Ub} (hr:eF E base cf rf o f h=some r):eF E base Q5 Q6 o f h=some r:=by
 unfold eF at hr ⊢;cases hv:aZ E f o with
 |some v=>rw[hv]at hr;exact hr
 |none=>
  rw[hv]at hr;simp only at hr ⊢;cases hq:b7 E f o with
  |some q=>rw[hq]at hr;exact hr
  |none=>
   rw[hq]at hr;simp only at hr ⊢;cases hm:bw E f o with
   |some m=>rw[hm]at hr;exact hr
   |none=>
    rw[hm]at hr;simp only at hr ⊢;cases he:dx E base f o h with
    |none=>rw[he]at hr;cases hr
    |some p=>
     rw[he]at hr;obtain⟨x,h'⟩:=p;cases x with
     |val v=>exact hr
     |enter g args=>
      simp only[Option.bind_eq_some_iff]at hr ⊢;obtain⟨q,h1,h2⟩:=hr;exact⟨q,H _ _ _ _ h1,h2⟩
     |round l args=>
      simp only[Option.bind_eq_some_iff]at hr ⊢;obtain⟨q,h1,h2⟩:=hr;exact⟨q,G _ _ _ _ h1,h2⟩
theorem DB {cf Q5:fg} {rf Q6:eg} (H:yS cf Q5) (G:xP rf Q6) {ops:List Oper}:∀{rest:List Oper} {f:AF} {h:ab} {r:AF×ab},si E base cf rf ops rest f h=some r→si E base Q5 Q6 ops rest f h=some r
 |[],f,h,r,hr=>hr
 |o::rest,f,h,r,hr=>by
  unfold si at hr ⊢;split at hr
  ·simp only[Option.bind_eq_some_iff]at hr ⊢;obtain⟨q,h1,h2⟩:=hr;exact⟨q,FE H G h1,DB H G h2⟩
  ·exact DB H G hr
theorem yU {cf Q5:fg} {rf Q6:eg} (H:yS cf Q5) (G:xP rf Q6) {ops:List Oper}:∀{rest:List Oper} {f:AF} {h:ab} {r:AF×ab×List eD},kj E base cf rf ops rest f h=some r→kj E base Q5 Q6 ops rest f h=some r
 |[],f,h,r,hr=>hr
 |o::rest,f,h,r,hr=>by
  unfold kj at hr ⊢;split at hr
  ·simp only[Option.bind_eq_some_iff]at hr ⊢;obtain⟨q,h1,q2,h2,h3⟩:=hr;exact⟨q,FE H G h1,q2,yU H G h2,h3⟩
  ·simp only[Option.bind_eq_some_iff]at hr ⊢;obtain⟨q2,h2,h3⟩:=hr;exact⟨q2,yU H G h2,h3⟩
theorem Ix {run run':AP} (H:FD run run') {ops:Array Oper} {draw:Bool} {f:AF} {h:ab} {r:Ex×AF×ab} (hr:kZ E base run ops draw f h=some r):kZ E base run' ops draw f h=some r:=by
 unfold kZ at hr ⊢;split at hr
 ·simp only[Option.bind_eq_some_iff]at hr ⊢;obtain⟨q,h1,h2⟩:=hr;exact⟨q,DB (qX H) (yT H) h1,h2⟩
 ·simp only[Option.bind_eq_some_iff,aj]at hr ⊢;obtain⟨h0,q,h1,h2⟩:=hr;exact⟨h0,q,yU (qX H) (yT H) h1,h2⟩
theorem FG:∀{n m:Nat},n≤m→FD (aX E base n) (aX E base m)
 |0,m,_=>fun c f h r hr=>by simp[aX]at hr
 |n+1,0,h=>by omega
 |n+1,m+1,Ol=>by
  have ih:FD (aX E base n) (aX E base m):=FG om;intro c f h r hr;unfold aX at hr ⊢;cases c with
  |skip=>exact hr
  |region id ops draw=>exact Ix ih hr
  |seq a b=>
   simp only at hr ⊢;cases hx:aX E base n a f h with
   |none=>rw[hx]at hr;cases hr
   |some q=>
    rw[hx]at hr;rw[ih _ _ _ _ hx];obtain⟨ex,f',h'⟩:=q;cases ex with
    |normal=>exact ih _ _ _ _ hr
    |exit id=>exact hr
    |ret=>exact hr
  |cond c t e=>
   simp only[Option.bind_eq_some_iff]at hr ⊢;obtain⟨v,h1,b,h2,h3⟩:=hr;refine⟨v,h1,b,h2,?_⟩;cases b<;>exact ih _ _ _ _ h3
  |block id b=>
   simp only at hr ⊢;cases hx:aX E base n b f h with
   |none=>rw[hx]at hr;cases hr
   |some q=>rw[hx]at hr;rw[ih _ _ _ _ hx];exact hr
  |loop b=>
   simp only at hr ⊢;cases hx:aX E base n b f h with
   |none=>rw[hx]at hr;cases hr
   |some q=>
    rw[hx]at hr;rw[ih _ _ _ _ hx];obtain⟨ex,f',h'⟩:=q;cases ex with
    |normal=>exact ih _ _ _ _ hr
    |exit id=>exact hr
    |ret=>exact hr
  |exit id=>exact hr
  |ret=>exact hr
  |rangeFunc g ps jX body=>
   simp only[Option.bind_eq_some_iff,aj]at hr ⊢;obtain⟨g',h1,h2,h3⟩:=hr;refine⟨g',h1,h2,?_⟩;split at h3
   ·simp only[Option.bind_eq_some_iff]at h3 ⊢;obtain⟨q,h4,h5⟩:=h3;refine⟨q,qX ih _ _ _ _ h4,?_⟩;split at h5
    ·rw[aj]at h5 ⊢;refine⟨h5.1,?_⟩;obtain⟨_,h5⟩:=h5;split at h5
     ·exact h5
     ·exact ih _ _ _ _ h5
    ·cases h5
   ·cases h3
  |_=>exact hr
theorem Ov {n m:Nat} (h:n≤m):yS (iK E base n) (iK E base m):=qX (FG h)
end
end Go.M
