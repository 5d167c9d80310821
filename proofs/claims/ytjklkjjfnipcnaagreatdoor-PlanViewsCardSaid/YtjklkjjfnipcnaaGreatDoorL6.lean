/-
  Part 6 of the library that the proof leans on.
-/
import Derived.Test.YtjklkjjfnipcnaaGreatDoorL5
noncomputable section
namespace Go.M
open Go
section
variable {X:Cx} {ρ ρ':Gh} {F:Nat→Prop} {o o':Ob} {c c':Nat} {h h':ab}
theorem ext_get {f aE t0 ee:Nat} {c0 cs:List Value} (hf:h.get f=some (.cells c0 f t0 ee)) (b:Nat):(dg h f aE cs).get b=if b=h.size then some (.cells cs f 0 0)else if b=f then some (.cells c0 f h.size aE)else h.get b:=by
 unfold dg;rw[ab.ai,bh,bd,hf]
theorem p7 {f aE:Nat} {cs:List Value}:(dg h f aE cs).size=h.size+1:=by unfold dg;rw[ab.size_push,bh]
theorem Hl (W:Wf h) {f aE t0 ee:Nat} {c0 cs:List Value} (hf:h.get f=some (.cells c0 f t0 ee)):Wf (dg h f aE cs):=by
 have zD:=W.lt hf;refine⟨fun b hb=>?_,fun b cs' f' t th hg=>?_⟩
 ·rw[p7]at hb;rw[ext_get hf,if_neg om,if_neg om];exact W.high b om
 ·rw[ext_get hf]at hg;split at hg
  ·cases hg;omega
  ·split at hg
   ·cases hg;omega
   ·exact W.le _ _ _ _ _ hg
theorem MP {f aE t0 ee:Nat} {c0 cs:List Value} (hf:h.get f=some (.cells c0 f t0 ee)) {b:Nat} (hb:b<h.size):hd (dg h f aE cs) b=hd h b:=by
 unfold hd;rw[ext_get hf,if_neg om];by_cases e:b=f
 ·subst e;rw[if_pos rfl,hf]
 ·rw[if_neg e]
theorem Hm (W:Wf h) {f t0 aE:Nat} {c0 cs:List Value} (hf:h.get f=some (.cells c0 f t0 aE)) {b:Nat} {l:List Value} (hr:h.rd b=some l):(dg h f aE cs).rd b=some l:=by
 obtain⟨r,h1,h2,h3⟩:=rd_some hr;obtain⟨f1,t1,tS,hg⟩:=cY h3;obtain⟨cr,gG⟩:=bz h1;obtain⟨qJ,q1,q2,iY⟩:=dj h1;rw[hg]at iY;cases iY;have hb:=W.lt hg;have zD:=W.lt gG;have oL:∃t th,(dg h f aE cs).get b=some (.cells l r.1 t th):=by
  rw[ext_get hf,if_neg om];by_cases e:b=f
  ·rw[if_pos e];subst e;rw[hg]at hf;cases hf;exact⟨_,_,rfl⟩
  ·rw[if_neg e,hg];exact⟨_,_,rfl⟩
 obtain⟨t,th,oL⟩:=oL;by_cases e:r.1=f
 ·have pj:(dg h f aE cs).get r.1=some (.cells cr r.1 h.size r.2.2):=by
   have MQ:=hf;rw[←e,gG]at MQ;simp only[Option.some.injEq,dV.cells.injEq]at MQ;rw[ext_get hf,if_neg om,if_pos e,MQ.1,MQ.2.2.2,e]
  exact cJ (bp oL pj) h2 (au oL)
 ·have pj:(dg h f aE cs).get r.1=some (.cells cr r.1 r.2.1 r.2.2):=by rw[ext_get hf,if_neg om,if_neg e,gG]
  exact cJ (bp oL pj) h2 (au oL)
theorem df {S:Ft} {x:Nat} {w:Bool} (h:(x,w)∈S):x∈cu S:=List.mem_map.2 ⟨_,h,rfl⟩
theorem ib {f:Nat} (W:Wf h) (same:∀x,x<h.size→hd h x≠f→h'.get x=h.get x) {b:Nat} {cs:List Value} (aX:hd h b≠f) (hr:h.rd b=some cs):h'.rd b=some cs:=by
 obtain⟨r,h1,h2,h3⟩:=rd_some hr;obtain⟨f1,t1,tS,hg⟩:=cY h3;obtain⟨cr,gG⟩:=bz h1;obtain⟨qJ,q1,q2,iY⟩:=dj h1;rw[hg]at iY;cases iY;rw[bG hg]at aX;have a1:=same b (W.lt hg) (by rw[bG hg];exact aX);have a2:=same r.1 (W.lt gG) (by rw[bG gG];exact aX);exact cJ (bp (a1.trans hg) (a2.trans gG)) h2 (au (a1.trans hg))
theorem Mem.PX (H:Mem X ρ F o c h) {S:Nat→Ft} (K:MO X ρ F o c h S) {m z l len':Nat} {w:Bool} (cC:Nat) {y y':TO} {Sq:Ft} (hl:look o m=some y) {b f t0 ee aE:Nat} {cs cs':List Value} (hS:S m=(f,w)::Sq) (hb:ρ m=some (.arr b z l)) (hg:h.get b=some (.cells cs f t0 ee))
 (hf:h.cW b=some (f,b,aE)) (_:aE≤b) (z8:cC≤h.size) (V4:cC=aE∨w=true):
 let h':=dg h f cC cs'
 let ρ':=bP (bP ρ m none) c (some (.arr h.size z len'))
 let F':=fun x=>F x∨(w=false∧x=h.size)
 (uI:(∀t v,VR c ρ F h t v→VR (c+1) ρ' F' h' t v)→(∀b,b<h.size→¬(hd h b=f)→h'.get b=h.get b)→(∀b cs,F b→h.rd b=some cs→h'.rd b=some cs)→h'.get h.size=some (.cells cs' f 0 0)→h'.cW h.size=some (f,h.size,cC)→OR (c+1) ρ' F' h' X.base c ((f,w)::Sq) y')→
 Mem X ρ' F' ((c,y')::eu o m) (c+1) h'∧∀t v,VR c ρ F h t v→VR (c+1) ρ' F' h' t v:=by
 intro h' ρ' F' uI;have hm:=H.lt hl;obtain⟨c0,bK⟩:=bz hf;simp only at bK;have zD:=H.wf.lt bK;have wg:f∈cu (S m):=by rw[hS];exact List.mem_cons_self
 have oz:=K.dF m _ f hl wg;have DK:=K.zL m _ hl;have dR:∀n,n≠m→n≠c→ρ' n=ρ n:=fun n h1 h2=>by simp only[ρ'];rw[aK _ _ h2,aK _ _ h1]
 have hA:∀n l,n<c→ρ' n=some l→ρ n=some l:=fun n l hn h1=>by
  by_cases e:n=m
  ·subst e;simp only[ρ']at h1;rw[aK _ _ om,aC]at h1;cases h1
  ·rwa [dR n e om]at h1
 have hB:∀n b,ρ n=some (.cO b)→ρ' n=some (.cO b):=fun n b' hn=>by
  have:=H.names _ _ hn;by_cases e:n=m
  ·subst e;rw[hb]at hn;cases hn
  ·rwa [dR n e om]
 have oy:∀b,F b→F' b:=fun b hb=>.inl hb;have PY:∀b,b<h.size→hd h b≠f→h'.get b=h.get b:=fun b' bE hx=>by
  simp only[h'];rw[ext_get bK,if_neg om,if_neg];intro e;subst e;exact hx (bG bK)
 have cA:∀b cs,F b→h.rd b=some cs→h'.rd b=some cs:=fun b cs hb hr=>by
  rcases V4 with e|e
  ·simp only[h'];rw[e];exact Hm H.wf bK hr
  ·exact ib H.wf PY (K.apart m _ f b hl (by rw[hS,e];exact List.mem_cons_self) hb) hr
 have AE:∀t v,VR c ρ F h t v→VR (c+1) ρ' F' h' t v:=fun t v=>VR.mono om hA hB oy cA;have EO:h'.get h.size=some (.cells cs' f 0 0):=by simp only[h'];rw[ext_get bK,if_pos rfl]
 have MR:h'.get f=some (.cells c0 f h.size cC):=by simp only[h'];rw[ext_get bK,if_neg om,if_pos rfl]
 have Lh:=H.wf.lt hg;have SV:(h'.rd h.size)=some cs':=cJ (bp EO MR) (by simp only;omega) (au EO);have same:∀b,b<h.size→¬(hd h b=f)→h'.get b=h.get b:=fun b' bE hx=>by
  simp only[h'];rw[ext_get bK,if_neg om,if_neg];intro e;subst e;exact hx (bG bK)
 have sk:∀n y1,n≠c→look ((c,y')::eu o m) n=some y1→n≠m∧look o n=some y1:=fun n y1 aX hy=>by
  rw[aD,if_neg (fun e=>aX e.symm),cS]at hy;by_cases e:n=m
  ·rw[if_pos e]at hy;cases hy
  ·rw[if_neg e]at hy;exact⟨e,hy⟩
 refine H.change K (fun x=>x=f) c y' ((f,w)::Sq) (by simp only[h'];rw[p7];omega) (Hl H.wf bK) (fun x hx=>by subst hx;exact oz.2.2)
  same cA (fun b' bE=>MP bK bE) oy (fun b' bE hn=>?_) om hA hB (fun n l hn=>?_) (fun n y1 aX hy=>?_) (fun y1 hy=>?_) (uI AE same cA EO (bp EO MR)) (by rw[←hS];exact DK) (fun x hx=>?_) fun x b' hx bE=>?_
 ·rcases bE with bE|⟨hw,rfl⟩
  ·exact absurd bE hn
  ·refine⟨by rw[SV];rfl,fun n y1 x aX hy hx e=>?_,fun x hx e=>?_,by rw[bG EO];exact oz.2.2⟩
   ·rw[bG EO]at e;subst e;obtain⟨h1,h2⟩:=sk n y1 aX hy;exact h1 (K.ey n m y1 _ _ h2 hl (df hx) wg)
   ·rw[bG EO]at e;subst e;rw[hS]at DK;simp only[cu,List.map_cons,List.nodup_cons]at DK;rcases List.mem_cons.1 hx with e|hx
    ·simp only[Prod.mk.injEq]at e;rw[hw]at e;exact absurd e.2 (by simp)
    ·exact DK.1 (List.mem_map.2 ⟨_,hx,rfl⟩)
 ·by_cases e:n=c
  ·omega
  ·by_cases e2:n=m
   ·omega
   ·rw[dR n e2 e]at hn;have:=H.names _ _ hn;omega
 ·obtain⟨h1,h2⟩:=sk n y1 aX hy;refine⟨h2,dR n h1 aX,fun x hx e=>?_⟩;subst e;exact h1 (K.ey n m y1 _ x h2 hl hx wg)
 ·rw[aD,if_pos rfl,Option.some.injEq]at hy;exact hy.symm
 ·rw[←hS]at hx;obtain⟨q1,q2,q3⟩:=K.dF m _ x hl hx;refine⟨q1,by simp only[h'];rw[p7];omega,q3,fun n y1 aX hy hh=>?_⟩;obtain⟨h1,h2⟩:=sk n y1 aX hy;exact h1 (K.ey n m y1 _ x h2 hl hh hx)
 ·rw[←hS]at hx;exact K.apart m _ x b' hl hx bE
theorem Kb {b f t0 ee t1 tS:Nat} {c0 c1:List Value} (hg:h.get b=some (.cells c0 f t0 ee)) (hf:h.get f=some (.cells c1 f t1 tS)) (cs':List Value) (x:Nat):
 ((h.setCells b cs').bk f b b).get x=if x=f then some (.cells (if f=b then cs' else c1) f b b)else if x=b then some (.cells cs' f t0 ee)else h.get x:=by
 rw[bd,bm,bm,hg];by_cases e:f=b
 ·subst e;simp
 ·simp[e,hf]
theorem AG (b f:Nat) (cs':List Value):((h.setCells b cs').bk f b b).size=h.size:=by rw[bh,bW]
theorem DL {base b f aE t0 ee:Nat} {c0 cs':List Value} (_:h.get b=some (.cells c0 f t0 ee)) (hf:h.cW b=some (f,b,aE)) (h1:base≤b) (h2:base≤f):
 h.wr base b cs'=some ((h.setCells b cs').bk f b b):=by
 unfold ab.wr;rw[hf];simp[aW,ax.2 h1,ax.2 h2]
structure SW (h:ab) (b f:Nat) (cs':List Value) (h':ab):Prop where
 size:h'.size=h.size
 wf:Wf h'
 self:∃t th,h'.get b=some (.cells cs' f t th)
 cW:h'.cW b=some (f,b,b)
 same:∀x,x<h.size→hd h x≠f→h'.get x=h.get x
 cu:∀x,hd h' x=hd h x
theorem yX (W:Wf h) {b f aE t0 ee:Nat} {c0 cs':List Value} (hg:h.get b=some (.cells c0 f t0 ee)) (hf:h.cW b=some (f,b,aE)):SW h b f cs' ((h.setCells b cs').bk f b b):=by
 obtain⟨cr,bK⟩:=bz hf;simp only at bK;have hb:=W.lt hg;have zD:=W.lt bK;have hle:=W.le _ _ _ _ _ hg;have get:=fun x=>Kb hg bK cs' x;have MR:((h.setCells b cs').bk f b b).get f=some (.cells (if f=b then cs' else cr) f b b):=by
  rw[get,if_pos rfl]
 have oL:∃t th,((h.setCells b cs').bk f b b).get b=some (.cells cs' f t th):=by
  by_cases e:b=f
  ·subst e;exact⟨b,b,by rw[MR,if_pos rfl]⟩
  ·rw[get,if_neg e,if_pos rfl];exact⟨_,_,rfl⟩
 obtain⟨t,th,oL⟩:=oL;have yY:∀x,x≠f→x≠b→((h.setCells b cs').bk f b b).get x=h.get x:=fun x h1 h2=>by rw[get,if_neg h1,if_neg h2]
 refine⟨AG _ _ _,⟨fun x hx=>?_,fun x qJ f1 t1 tS hx=>?_⟩,⟨t,th,oL⟩,bp oL MR,fun x hx aX=>?_,fun x=>?_⟩
 ·rw[AG]at hx;rw[yY x om om];exact W.high x hx
 ·by_cases e1:x=f
  ·subst e1;rw[MR]at hx;cases hx;exact Nat.le_refl _
  ·by_cases e2:x=b
   ·subst e2;rw[oL]at hx;cases hx;exact hle
   ·rw[yY x e1 e2]at hx;exact W.le _ _ _ _ _ hx
 ·refine yY x (fun e=>?_) (fun e=>?_)
  ·subst e;exact aX (bG bK)
  ·subst e;exact aX (bG hg)
 ·by_cases e1:x=f
  ·subst e1;rw[bG MR,bG bK]
  ·by_cases e2:x=b
   ·subst e2;rw[bG oL,bG hg]
   ·unfold hd;rw[yY x e1 e2]
theorem Mem.set (H:Mem X ρ F o c h) {S:Nat→Ft} (K:MO X ρ F o c h S) {m:Nat} {y y':TO} {S0:Ft} (hl:look o m=some y) {f:Nat} (hf:(f,true)∈S m) (p8:∀p∈S0,p∈S m) (DI:(cu S0).Nodup) (cI:h'.size=h.size) (zU:Wf h')
 (same:∀x,x<h.size→hd h x≠f→h'.get x=h.get x) (MS:∀x,hd h' x=hd h x)
 (uI:(∀t v,VR c ρ F h t v→VR c ρ F h' t v)→(∀b cs,F b→h.rd b=some cs→h'.rd b=some cs)→OR c ρ F h' X.base m S0 y'):
 Mem X ρ F (dQ o m y') c h'∧∀t v,VR c ρ F h t v→VR c ρ F h' t v:=by
 have oz:=K.dF m y f hl (df hf);have cA:∀b cs,F b→h.rd b=some cs→h'.rd b=some cs:=fun b cs hb hr=>ib H.wf same (K.apart m y f b hl hf hb) hr;have AE:∀t v,VR c ρ F h t v→VR c ρ F h' t v:=fun t v=>VR.mono (Nat.le_refl _) (fun _ _ _ hx=>hx) (fun _ _ hx=>hx) (fun _ hb=>hb) cA;have wU:∀x∈cu S0,x∈cu (S m):=fun x hx=>by
  obtain⟨p,hp,rfl⟩:=List.mem_map.1 hx;exact List.mem_map.2 ⟨p,p8 p hp,rfl⟩
 have E6:∀n y1,n≠m→look (dQ o m y') n=some y1→look o n=some y1:=fun n y1 aX hy=>by rwa [dk,if_neg aX]at hy
 refine H.change K (fun x=>x=f) m y' S0 om zU (fun x hx=>by subst hx;exact oz.2.2) (fun b hb hx=>same b hb hx) cA (fun b _=>MS b) (fun _ hb=>hb) (fun _ hb hn=>absurd hb hn) (Nat.le_refl _) (fun _ _ _ hx=>hx) (fun _ _ hx=>hx) H.names
  (fun n y1 aX hy=>?_) (fun y1 hy=>?_) (uI AE cA) DI (fun x hx=>?_) fun x b hx hb=>K.apart m y x b hl (p8 _ hx) hb
 ·refine⟨E6 n y1 aX hy,rfl,fun x hx e=>?_⟩;subst e;exact aX (K.ey n m y1 y x (E6 n y1 aX hy) hl hx (df hf))
 ·rw[dk,if_pos rfl,hl]at hy;simp at hy;exact hy.symm
 ·obtain⟨q1,q2,q3⟩:=K.dF m y x hl (wU x hx);exact⟨q1,om,q3,fun n y1 aX hy hh=>aX (K.ey n m y1 y x (E6 n y1 aX hy) hl hh (wU x hx))⟩
def ml (ρ:Gh) (c:Nat) (ls:List Loc):Gh:=fun n=>if n<c then ρ n else ls[n - c]?
theorem eR (ρ:Gh) {c n:Nat} (ls:List Loc) (h:n<c):ml ρ c ls n=ρ n:=if_pos h
theorem uJ (ρ:Gh) (c i:Nat) (ls:List Loc):ml ρ c ls (c+i)=ls[i]? :=by unfold ml;rw[if_neg om];congr 1;omega
theorem qS {base:Nat} {Ss:List Ft} {new:List (Nat×TO)} {ls:List Loc}:∀{k:Nat},Az F h base k Ss new ls→∀n,look new n=if n<k then none else(new[n - k]?).map (·.2):=by
 intro k N;have key:∀(new:List (Nat×TO)) (k:Nat),(∀(i:Nat) p,new[i]? =some p→p.1=k+i)→∀n,look new n=if n<k then none else(new[n - k]?).map (·.2):=by
  intro new
  induction new with
  |nil=>intro k _ n;simp[look]
  |cons p l ih=>
   intro k hk n;have h0:=hk 0 p rfl;rw[aD];have V5:=ih (k+1) (fun i q hq=>by have:=hk (i+1) q (by simpa using hq);omega) n;by_cases e:p.1=n
   ·rw[if_pos e,if_neg om];have:n - k=0:=by omega
    rw[this];rfl
   ·rw[if_neg e,V5];by_cases e1:n<k
    ·rw[if_pos om,if_pos e1]
    ·rw[if_neg om,if_neg e1];have:n - k=(n - (k+1))+1:=by omega
     rw[this,List.getElem?_cons_succ]
 exact key new k fun i p hp=>(N.nth i p hp).1
theorem Mem.opens (H:Mem X ρ F o c h) {S:Nat→Ft} (K:MO X ρ F o c h S) {m0:Nat} {y0 y1:TO} {S0:Ft} {Ss:List Ft} {new:List (Nat×TO)} {ls:List Loc} (hl:look o m0=some y0) (N:Az F h X.base c Ss new ls) (hp:(S m0).Perm (S0++Ss.flatten))
 (uI:(∀t v,VR c ρ F h t v→VR (c+new.length) (ml ρ c ls) F h t v)→OR (c+new.length) (ml ρ c ls) F h X.base m0 S0 y1):
 Mem X (ml ρ c ls) F (new++dQ o m0 y1) (c+new.length) h∧∀t v,VR c ρ F h t v→VR (c+new.length) (ml ρ c ls) F h t v:=by
 have hA:∀n l,n<c→ml ρ c ls n=some l→ρ n=some l:=fun n l hn h1=>by rwa [eR _ _ hn]at h1
 have hB:∀n b,ρ n=some (.cO b)→ml ρ c ls n=some (.cO b):=fun n b h1=>by rw[eR _ _ (H.names _ _ h1)];exact h1
 have hm:∀t v,VR c ρ F h t v→VR (c+new.length) (ml ρ c ls) F h t v:=fun t v=>VR.mono om hA hB (fun _ h=>h) (fun _ _ _ h=>h);have B7:=H.lt hl
 let S':Nat→Ft:=fun n=>if n<c then(if n=m0 then S0 else S n)else(Ss[n - c]?).getD []
 have s0:S' m0=S0:=(if_pos B7).trans (if_pos rfl);have s1:∀n,n<c→n≠m0→S' n=S n:=fun n h1 h2=>(if_pos h1).trans (if_neg h2);have s2:∀i:Nat,S' (c+i)=(Ss[i]?).getD []:=fun i=>(if_neg om).trans (by rw[Nat.add_sub_cancel_left]);have RG:(cu (S m0)).Perm (cu S0++cu Ss.flatten):=by rw[←nG];exact hp.map _
 have DI:(cu S0++cu Ss.flatten).Nodup:=RG.nodup_iff.1 (K.zL m0 _ hl);have U0:∀(i:Nat) Q,Ss[i]? =some Q→∀p∈Q,p∈S m0:=fun i Q hQ p V6=>hp.mem_iff.2 (List.mem_append_right _ (List.mem_flatten.2 ⟨Q,List.mem_of_getElem? hQ,V6⟩))
 -- where an object comes from
 have jQ:∀n y,look (new++dQ o m0 y1) n=some y→(n=m0∧y=y1)∨(n<c∧n≠m0∧look o n=some y)∨∃(i:Nat) (Q:Ft) (l:Loc),n=c+i∧Ss[i]? =some Q∧ls[i]? =some l∧CR F h X.base Q (.o y l):=by
  intro n y hn;rw[iB,qS N]at hn;by_cases hc:n<c
  ·rw[if_pos hc]at hn;simp only at hn;rw[dk]at hn;by_cases e:n=m0
   ·rw[if_pos e,hl]at hn;simp at hn;exact .inl ⟨e,hn.symm⟩
   ·rw[if_neg e]at hn;exact .inr (.inl ⟨hc,e,hn⟩)
  ·rw[if_neg hc]at hn;cases hq:new[n - c]? with
   |none=>
    rw[hq]at hn;simp only[Option.map_none]at hn;rw[dk,if_neg om]at hn;exact absurd (H.lt hn) hc
   |some p=>
    rw[hq]at hn;simp only[Option.map_some,Option.some.injEq]at hn;subst hn;obtain⟨_,Q,l,h1,h2,h3⟩:=N.nth _ _ hq;exact .inr (.inr ⟨n - c,Q,l,om,h1,h2,h3⟩)
 have LC:∀n y,look (new++dQ o m0 y1) n=some y→∀p∈S' n,(n<c∧n≠m0∧p∈S n∧look o n=some y)∨p∈S m0:=by
  intro n y hn p JF;rcases jQ n y hn with⟨rfl,_⟩|⟨h1,h2,h3⟩|⟨i,Q,l,rfl,h1,_,_⟩
  ·rw[s0]at JF;exact .inr (hp.mem_iff.2 (List.mem_append_left _ JF))
  ·rw[s1 n h1 h2]at JF;exact .inl ⟨h1,h2,JF,h3⟩
  ·rw[s2,h1]at JF;exact .inr (U0 i Q h1 p JF)
 refine⟨⟨⟨S',fun n y hn=>?_,fun n y hn=>?_,fun n1 n2 z1 z2 x h1 h2 k1 k2=>?_,fun n y x hn hx=>?_,fun n y x b hn hx hb=>?_⟩,fun n l hn=>?_,H.frozen,H.F0,H.wf,H.l9,H.jx,H.yV,?_,fun k l hk hl=>?_,fun k b hk hb=>?_⟩,hm⟩
 ·rcases jQ n y hn with⟨rfl,rfl⟩|⟨h1,h2,h3⟩|⟨i,Q,l,rfl,h1,h2,h3⟩
  ·rw[s0];exact uI hm
  ·rw[s1 n h1 h2];exact(K.bR n y h3).bf (T:=fun _=>False) H.wf (fun _ _ _=>rfl) (fun _ _ hf=>hf.elim) (fun _ h=>h) (fun _ _ _ h=>h) hm (eR _ _ h1)
  ·rw[s2,h1];exact OR.o6 h3 (by rw[uJ];exact h2)
 ·rcases jQ n y hn with⟨rfl,rfl⟩|⟨h1,h2,h3⟩|⟨i,Q,l,rfl,h1,h2,h3⟩
  ·rw[s0];exact(List.nodup_append.1 DI).1
  ·rw[s1 n h1 h2];exact K.zL n y h3
  ·rw[s2,h1];have:(Q.map (·.1)).Sublist (cu Ss.flatten):=(List.sublist_flatten_of_mem (List.mem_of_getElem? h1)).map _;exact this.nodup (List.nodup_append.1 DI).2.1
 ·have idx:∀(i j:Nat) (Q R:Ft) (x:Nat),Ss[i]? =some Q→Ss[j]? =some R→x∈cu Q→x∈cu R→i=j:=by
   have zD:(Ss.map cu).flatten.Nodup:=by
    have:=(List.nodup_append.1 DI).2.1;unfold cu at this;rw[List.map_flatten]at this;exact this
   intro i j Q R x hi hj RH RI;have pw:=List.pairwise_iff_getElem.1 (List.pairwise_flatten.1 zD).2;have key:∀(i j:Nat) (Q R:Ft),Ss[i]? =some Q→Ss[j]? =some R→x∈cu Q→x∈cu R→i<j→False:=fun i j Q R hi hj RH RI bO=>by
    have li:=(List.getElem?_eq_some_iff.1 hi);have lj:=(List.getElem?_eq_some_iff.1 hj);refine pw i j (by simpa using li.1) (by simpa using lj.1) bO x ?_ x ?_ rfl
    ·rw[List.getElem_map,li.2];exact RH
    ·rw[List.getElem_map,lj.2];exact RI
   rcases Nat.lt_trichotomy i j with bO|heq|bO
   ·exact(key i j Q R hi hj RH RI bO).elim
   ·exact heq
   ·exact(key j i R Q hj hi RI RH bO).elim
  have U3:∀x,x∈cu S0→∀(i:Nat) (Q:Ft),Ss[i]? =some Q→x∈cu Q→False:=fun x h1 i Q h2 h3=>by
   refine(List.nodup_append.1 DI).2.2 x h1 x ?_ rfl;obtain⟨p,sV,rfl⟩:=List.mem_map.1 h3;exact List.mem_map.2 ⟨p,List.mem_flatten.2 ⟨Q,List.mem_of_getElem? h2,sV⟩,rfl⟩
  have U4:∀(x i:Nat) (Q:Ft),Ss[i]? =some Q→x∈cu Q→x∈cu (S m0):=fun x i Q h1 h2=>by
   obtain⟨p,sV,rfl⟩:=List.mem_map.1 h2;exact List.mem_map.2 ⟨p,U0 i Q h1 p sV,rfl⟩
  have U5:∀x,x∈cu S0→x∈cu (S m0):=fun x hx=>RG.mem_iff.2 (List.mem_append_left _ hx);rcases jQ n1 z1 h1 with⟨rfl,_⟩|⟨a1,a2,a3⟩|⟨i,Q,l,rfl,a1,_,_⟩<;>rcases jQ n2 z2 h2 with⟨rfl,_⟩|⟨b1,b2,b3⟩|⟨j,R,l',rfl,b1,_,_⟩
  ·rfl
  ·rw[s0]at k1;rw[s1 _ b1 b2]at k2;exact absurd (K.ey _ _ _ _ x hl b3 (U5 x k1) k2).symm b2
  ·rw[s0]at k1;rw[s2,b1]at k2;exact(U3 x k1 j R b1 k2).elim
  ·rw[s1 _ a1 a2]at k1;rw[s0]at k2;exact absurd (K.ey _ _ _ _ x a3 hl k1 (U5 x k2)) a2
  ·rw[s1 _ a1 a2]at k1;rw[s1 _ b1 b2]at k2;exact K.ey _ _ _ _ x a3 b3 k1 k2
  ·rw[s1 _ a1 a2]at k1;rw[s2,b1]at k2;exact absurd (K.ey _ _ _ _ x a3 hl k1 (U4 x j R b1 k2)) a2
  ·rw[s2,a1]at k1;rw[s0]at k2;exact(U3 x k2 i Q a1 k1).elim
  ·rw[s2,a1]at k1;rw[s1 _ b1 b2]at k2;exact absurd (K.ey _ _ _ _ x hl b3 (U4 x i Q a1 k1) k2).symm b2
  ·rw[s2,a1]at k1;rw[s2,b1]at k2;rw[idx i j Q R x a1 b1 k1 k2]
 ·obtain⟨p,sV,rfl⟩:=List.mem_map.1 hx;rcases LC n y hn p sV with⟨_,_,h3,h4⟩|h3
  ·exact K.dF n y _ h4 (df h3)
  ·exact K.dF m0 _ _ hl (df h3)
 ·rcases LC n y hn _ hx with⟨_,_,h3,h4⟩|h3
  ·exact K.apart n y x b h4 h3 hb
  ·exact K.apart m0 _ x b hl h3 hb
 ·by_cases hc:n<c
  ·omega
  ·unfold ml at hn;rw[if_neg hc]at hn;have:=(List.getElem?_eq_some_iff.1 hn).1;have:=N.l2;omega
 ·have:=H.wy.1;omega
 ·exact H.wy.2.1 k l hk (hA k l (Nat.lt_of_lt_of_le hk H.wy.1) hl)
 ·exact hB k b (H.wy.2.2 k b hk hb)
theorem Mem.share (H:Mem X ρ F o c h) (m:Nat):∃F',Mem X ρ F' (gQ o m) c h∧(∀t v,VR c ρ F h t v→VR c ρ F' h t v)∧(∀b,F b→F' b)∧
 ∀z w es v,look o m=some (.arr z w es)→VR c ρ F h (.tk m) v→VR c ρ F' h (.sl z es false) v:=by
 unfold gQ;split
 ·rename_i z w es hl;obtain⟨S,K⟩:=H.ex;have hO:=K.bR m _ hl;have E6:∀n y,n≠m→look (dQ o m (.arr z false es)) n=some y→look o n=some y:=fun n y aX hy=>by rwa [dk,if_neg aX]at hy
  have OW:∀y',look (dQ o m (.arr z false es)) m=some y'→y'= .arr z false es:=fun y' hy=>by rw[dk,if_pos rfl,hl]at hy;simp at hy;exact hy.symm
  cases hS:S m with
  |nil=>
   rw[hS]at hO;cases hO with
   |nil hb hz=>
    obtain⟨M,hm⟩:=H.change K (F':=F) (ρ':=ρ) (c':=c) (h':=h) (o':=dQ o m (.arr z false [])) (fun _=>False) m (.arr z false []) [] (Nat.le_refl _) H.wf (fun _ hf=>hf.elim) (fun _ _ _=>rfl) (fun _ _ _ h=>h) (fun _ _=>rfl) (fun _ h=>h) (fun _ h hn=>absurd h hn) (Nat.le_refl _) (fun _ _ _ h=>h) (fun _ _ h=>h) H.names
     (fun n y aX hy=>⟨E6 n y aX hy,rfl,fun _ _ hf=>hf.elim⟩) OW (.nil hb hz) (by simp[cu]) (by simp[cu]) (by simp)
    refine⟨F,M,hm,fun _ h=>h,fun z' w' bC v nH hv=>?_⟩;rw[hl]at nH;cases nH;cases hv with
    |tk hn nJ ha h0=>
     rcases h0 _ hb with rfl |⟨b,o',cs,q1,q2,q3,q4,rfl⟩
     ·exact .nil rfl
     ·exact .sl q1 q2 q3 rfl (Nat.le_refl _) (fun h=>by cases h) (by simpa using q4) (by simp) (by simp) fun i j e t v h1=>by simp at h1
  |cons p Sq=>
   have SX:=fun x hx=>K.dF m _ x hl hx;have uw:∀(n:Nat) (y:TO) (x:Nat),n≠m→look o n=some y→x∈cu (S n)→x∈cu (S m)→False:=fun n y x aX hn hx PV=>aX (K.ey n m y _ x hn hl hx PV);rw[hS]at hO SX uw;cases hO with
   |arr hb hg hf ht dc hz hlen he fy hc hF=>
    rename_i b f t0 ee aE cs;have fj:h.rd b=some cs:=cJ hf ht (au hg);have MU:∀t v,VR c ρ F h t v→VR c ρ (fun x=>F x∨x=b) h t v:=fun t v=>VR.mono (Nat.le_refl _) (fun _ _ _ h=>h) (fun _ _ h=>h) (fun _ h=>.inl h) (fun _ _ _ h=>h);have MM:Mem X ρ (fun x=>F x∨x=b) (dQ o m (.arr z false es)) c h∧∀t v,VR c ρ F h t v→VR c ρ (fun x=>F x∨x=b) h t v:=by
     refine H.change K (F':=fun x=>F x∨x=b) (ρ':=ρ) (c':=c) (h':=h) (o':=dQ o m (.arr z false es)) (fun _=>False) m (.arr z false es) [(f,false)] (Nat.le_refl _) H.wf (fun _ hf=>hf.elim) (fun _ _ _=>rfl) (fun _ _ _ h=>h) (fun _ _=>rfl) (fun _ h=>.inl h)
      (fun b' bE hn=>?_) (Nat.le_refl _) (fun _ _ _ h=>h) (fun _ _ h=>h) H.names
      (fun n y aX hy=>⟨E6 n y aX hy,rfl,fun _ _ hf=>hf.elim⟩) OW (.arr hb hg hf ht dc hz hlen he fy (fun i j e t v q1 q2 q3=>MU _ _ (hc i j e t v q1 q2 q3)) fun _=>.inr rfl) (by simp[cu]) (fun x hx=>?_) (fun x b' hx=>by simp at hx)
     ·rcases bE with bE|rfl
      ·exact absurd bE hn
      ·refine⟨by rw[fj];rfl,fun n y x aX hy hx e=>?_,by simp,?_⟩
       ·rw[bG hg]at e;subst e;exact uw n y _ aX (E6 n y aX hy) (df hx) List.mem_cons_self
       ·rw[bG hg];exact(SX _ List.mem_cons_self).2.2
     ·simp only[cu,List.map_cons,List.map_nil,List.mem_singleton]at hx;subst hx;obtain⟨q1,q2,q3⟩:=SX _ List.mem_cons_self;exact⟨q1,q2,q3,fun n y aX hy hh=>uw n y _ aX (E6 n y aX hy) hh List.mem_cons_self⟩
    obtain⟨M,hm⟩:=MM;refine⟨_,M,hm,fun _ h=>.inl h,fun z' w' bC v nH hv=>?_⟩;rw[hl]at nH;cases nH;cases hv with
    |tk hn nJ ha h0=>
     obtain⟨cap,h1,rfl⟩:=ha _ _ _ hb;exact .sl (.inr rfl) fj hz rfl h1 (fun h=>by cases h) (by rw[Nat.zero_add];omega) he fy fun i j e t v q1 q2 q3=>hm _ _ (hc i j e t v q1 q2 (by simpa using q3))
 ·rename_i zH;exact⟨F,H,fun _ _ h=>h,fun _ h=>h,fun z w es v hl=>absurd hl (zH z w es)⟩
end
def dS (ids:List (Option Nat)) (zf:Nat→Nat) (ρ:Gh):Gh:=fun n=>match ids[n]? with
 |some (some m)=>ρ m
 |some none=>some (.nil (zf n))
 |none=>none
section
variable {X:Cx} {ρ:Gh} {F:Nat→Prop} {o:Ob} {c:Nat} {h:ab} {ids:List (Option Nat)} {zf:Nat→Nat}
theorem o7 {n:Nat} {x:Option Nat} (h:ids[n]? =some x):n<ids.length:=(List.getElem?_eq_some_iff.1 h).1
def V7 (c:Nat) (ρ:Gh) (F:Nat→Prop) (h:ab) (c':Nat) (ρ':Gh):Tx→Tx→Prop
 | .v a,.v b=>∀x,VR c ρ F h a x→VR c' ρ' F h b x
 | .l a,.l b=>∀m,cX c ρ F h a m→cX c' ρ' F h b m
 |_,_=>True
theorem mq.rel (H:Mem X ρ F o c h) {a b:Tx} (L:mq ids o a b):V7 c ρ F h ids.length (dS ids zf ρ) a b:=by
 induction L with
 |s hv=>intro x hx;obtain rfl:=hv.eq;cases hx with|s hp=>exact .s hp
 |sl hz hf he=>
  intro x hx;obtain rfl:=he.eq;simp only[Bool.or_eq_true,beq_iff,Bool.not_eq_true']at hz hf;cases hx with
  |nil he=>exact .nil he
  |sl h1 h2 h3 h4 h5 h6 h7 h8 h9 hc=>
   rcases hz with rfl |rfl
   ·refine .sl h1 h2 h3 h4 h5 (fun h=>h6 ?_) h7 h8 h9 fun i j e t v q1 q2 q3=>(hc i j e t v q1 q2 q3).c6 (h9 e (List.mem_of_getElem? q1) t (List.mem_of_getElem? q2));rcases hf with hf|hf
    ·rw[hf]at h;cases h
    ·exact hf
   ·omega
 |new hi=>
  intro x hx;cases hx with
  |nil he=>exact .tk (o7 hi) rfl (fun b z len hx=>by simp[dS,hi]at hx) (fun z hx=>.inl rfl)
  |sl h1 h2 h3=>omega
 |tk hi=>
  intro x hx;cases hx with
  |tk hn nJ ha h0=>exact .tk (o7 hi) nJ (fun b z len hx=>ha b z len (by simpa[dS,hi]using hx)) (fun z hx=>h0 z (by simpa[dS,hi]using hx))
 |pv hi he=>
  intro x hx;obtain rfl:=he.eq;cases hx with
  |pv hn nJ ha h0=>exact .pv (o7 hi) nJ (fun b z len hx=>ha b z len (by simpa[dS,hi]using hx)) (fun z hx=>h0 z (by simpa[dS,hi]using hx))
 |look hl he=>
  intro x hx;obtain rfl:=he.eq;obtain⟨S,K⟩:=H.ex;cases hx with
  |tk hn nJ ha h0=>
   have hO:=K.bR _ _ hl;generalize S _=Sm at hO;cases hO with
   |nil hb hz=>
    rcases h0 _ hb with rfl |⟨b,o',cs,q1,q2,q3,q4,rfl⟩
    ·exact .nil rfl
    ·exact .sl q1 q2 q3 rfl (Nat.le_refl _) (fun h=>by cases h) (by simpa using q4) (by simp) (by simp) fun i j e t v h1=>by simp at h1
   |arr hb hg hf ht dc hz hlen he fy hc hF=>
    obtain⟨cap,h1,rfl⟩:=ha _ _ _ hb
    exact .sl (hF rfl) (cJ hf ht (au hg)) hz rfl h1 (fun h=>by cases h) (by rw[Nat.zero_add];omega) he fy
     fun i j e t v q1 q2 q3=>(hc i j e t v q1 q2 (by simpa using q3)).c6 (fy e (List.mem_of_getElem? q1) t (List.mem_of_getElem? q2))
 |ptr hi=>intro x hx;cases hx with|ptr hb=>exact .ptr (by simpa[dS,hi]using hb)
 |ep he=>
  intro x hx;obtain rfl:=he.eq;cases hx with
  |ep h1 h2 h3 h4 hc=>exact .ep h1 h2 h3 h4 fun j t v q1 q2=>(hc j t v q1 q2).c6 (h4 t (List.mem_of_getElem? q1))
 |mp hi=>intro x hx;cases hx with|mp hb=>exact .mp (by simpa[dS,hi]using hb)
 |bg hi he=>intro x hx;obtain rfl:=he.eq;cases hx with|bg hb=>exact .bg (by simpa[dS,hi]using hb)
 |agg _ ih=>intro x hx;obtain⟨a',rfl,h1⟩:=hx.dN;exact .fg (ih _ h1)
 |dH _ ih=>intro x hx;obtain⟨a',rfl,h1⟩:=hx.pX;exact .gi (ih _ h1)
 |k9 _ ih=>intro x hx;cases hx with|k9 pn=>exact .k9 (ih _ pn)
 |de _ _ yf yg=>
  intro x hx;cases hx with
  |de hs ha ht hk=>
   have q1:=yf _ ⟨by rw[Array.length_toList];exact hs,fun i t v q1 q2=>ha i t v q1 (by simpa using q2)⟩;have q2:=yg _ ⟨by rw[Array.length_toList];exact ht,fun i t v q1 q2=>hk i t v q1 (by simpa using q2)⟩;exact .de (by have:=q1.1;rwa [Array.length_toList]at this) (fun i t v r1 r2=>q1.2 i t v r1 (by simpa using r2)) (by have:=q2.1;rwa [Array.length_toList]at this) (fun i t v r1 r2=>q2.2 i t v r1 (by simpa using r2))
 |j=>intro x _;exact .j _
 |nil=>intro m hm;rw[hm.bu];exact .nil
 |cons _ _ yf yg=>intro m hm;obtain⟨v,m',rfl,h1,h2⟩:=hm.aG;exact .cons (yf _ h1) (yg _ h2)
theorem p9 (H:Mem X ρ F o c h) (v v':TV) (x:Value) (L:RF ids o v v') (hv:VR c ρ F h v x):VR ids.length (dS ids zf ρ) F h v' x:=mq.rel H L x hv
theorem Hn (H:Mem X ρ F o c h) (l l':List TV) (m:List Value) (L:PQ ids o l l') (hv:cX c ρ F h l m):cX ids.length (dS ids zf ρ) F h l' m:=mq.rel H L m hv
theorem dI {z:Nat}:∀{es:List (List TV)} {i:Nat} {e:List TV},(∀e∈es,e.length=z)→es[i]? =some e→(es.flatten.drop (i*z)).take z=e∧(i+1)*z≤es.flatten.length
 |[],i,e,_,h=>by simp at h
 |a::l,0,e,hz,h=>by
  simp at h;subst h;have:=hz a List.mem_cons_self;simp[this]
 |a::l,i+1,e,hz,h=>by
  have ha:=hz a List.mem_cons_self;obtain⟨h1,h2⟩:=dI (es:=l) (i:=i) (fun e he=>hz e (List.mem_cons_of_mem _ he)) (by simpa using h);have e1:(i+1)*z=a.length+i*z:=by rw[ha,Nat.add_mul];omega
  refine⟨?_,?_⟩
  ·rw[List.flatten_cons,e1,List.drop_append,List.drop_eq_nil_of_le om];simpa using h1
  ·rw[List.flatten_cons,List.length_append];have e2:(i+1+1)*z=a.length+(i+1)*z:=by rw[ha,Nat.add_mul (i+1)];omega
   omega
theorem iC {z:Nat}:∀{es:List (List TV)} {i:Nat} {e:List TV},(∀e∈es,e.length=z)→i<es.length→(es.set i e).flatten=es.flatten.take (i*z)++(e++(es.flatten.drop (i*z)).drop z)
 |[],i,e,_,h=>by simp at h
 |a::l,0,e,hz,h=>by
  have:=hz a List.mem_cons_self;subst this;simp
 |a::l,i+1,e,hz,h=>by
  have ha:=hz a List.mem_cons_self;have ih:=iC (es:=l) (i:=i) (e:=e) (fun e he=>hz e (List.mem_cons_of_mem _ he)) (by simpa using h);have e1:(i+1)*z=a.length+i*z:=by rw[ha,Nat.add_mul];omega
  rw[List.set_cons_succ,List.flatten_cons,List.flatten_cons,ih,e1,List.take_length_add_append,List.drop_length_add_append,List.append_assoc]
theorem b8.PZ {base:Nat} {S V:Ft} {l l2:List TV} {m:List Value} (H:b8 c ρ F h base S l m) (p n:Nat) (hf:∀S2,b8 c ρ F h base S2 ((l.drop p).take n) ((m.drop p).take n)→∃S3,b8 c ρ F h base S3 l2 ((m.drop p).take n)∧S3.Perm (S2++V)):
 ∃S',b8 c ρ F h base S' (l.take p++(l2++(l.drop p).drop n)) m∧S'.Perm (S++V):=by
 obtain⟨S1,S2,S3,rfl,h1,h2,h3⟩:=H.part p n;obtain⟨S4,h4,h5⟩:=hf S2 h2;refine⟨S1++(S4++S3),?_,?_⟩
 ·have:=h1.join (h4.join h3)
  rwa [List.take_append_drop,List.take_append_drop]at this
 ·refine((h5.append_right S3).append_left S1).trans ?_;rw[List.append_assoc,List.append_assoc,List.append_assoc];exact(((List.perm_append_comm (l₁:=V) (l₂:=S3)).append_left S2)).append_left S1
theorem b8.CG {base:Nat} {S:Ft} {l:List TV} {m:List Value} (H:b8 c ρ F h base S l m):(∀t∈l,kI t=true)→CR F h base S (.cs l m):=by
 induction H with
 |nil=>intro _;exact .nil
 |vr hv _ ih=>
  rename_i t v l m _;intro hc;have h1:=hc t List.mem_cons_self;have h2:=ih fun t ht=>hc t (List.mem_cons_of_mem _ ht);have hf:M.fz t=true:=by
   unfold kI at h1;split at h1
   ·cases hv
   ·exact h1
  exact .cons (S:=[]) (.fz hf (hv.c6 hf)) h2
 |cl hv _ ih=>intro hc;exact .cons hv (ih fun t ht=>hc t (List.mem_cons_of_mem _ ht))
theorem gj.CG {base kd:Nat} {S:Ft} {l:List (Value×TV)} {m:List MapEntry} (H:gj c ρ F h base kd S l m):(∀e∈l,∀t∈ay e.2,kI t=true)→CR F h base S (.es kd l m):=by
 induction H with
 |nil=>intro _;exact .E4
 |cons hk hH ha hv _ ih=>intro hc;exact .xh hk hH ha (hv.CG (hc _ List.mem_cons_self)) (ih fun e he=>hc e (List.mem_cons_of_mem _ he))
theorem b8.conv {base c':Nat} {ρ':Gh} {S:Ft} {l:List TV} {m:List Value} (H:b8 c ρ F h base S l m) (hc:∀t∈l,kI t=true):b8 c' ρ' F h base S l m:=b8.o6 (H.CG hc) _ _ rfl
theorem gj.conv {base kd c':Nat} {ρ':Gh} {S:Ft} {l:List (Value×TV)} {m:List MapEntry} (H:gj c ρ F h base kd S l m) (hc:∀e∈l,∀t∈ay e.2,kI t=true):gj c' ρ' F h base kd S l m:=gj.o6 (H.CG hc) _ _ _ rfl
theorem gj.put {base kd c':Nat} {ρ':Gh} {k:Value} {v v1:TV} {V:Ft} (ha:cF v=cF v1) (hf:∀S2 (x:Value),b8 c ρ F h base S2 (ay v) x.cells.toList→∃S3,b8 c' ρ' F h base S3 (ay v1) x.cells.toList∧S3.Perm (S2++V)):
 ∀{es:List (Value×TV)} {S:Ft} {ev:List MapEntry},(∀e∈es,∀t∈ay e.2,kI t=true)→gj c ρ F h base kd S (c8 es k v) ev→∃S',gj c' ρ' F h base kd S' (c8 es k v1) ev∧S'.Perm (S++V):=by
 have one:∀{l:List (Value×TV)} {S:Ft} {ev:List MapEntry},(∀e∈l,∀t∈ay e.2,kI t=true)→gj c ρ F h base kd S ((k,v)::l) ev→∃S',gj c' ρ' F h base kd S' ((k,v1)::l) ev∧S'.Perm (S++V):=by
  intro l S ev bL H;cases H with
  |cons hk hH tW hv hl=>
   obtain⟨S3,h1,h2⟩:=hf _ _ hv;refine⟨_,.cons hk hH (ha.symm.trans tW) h1 (hl.conv bL),?_⟩;refine(h2.append_right _).trans ?_;rw[List.append_assoc,List.append_assoc];exact List.perm_append_comm.append_left _
 intro es
 induction es with
 |nil=>intro S ev _ H;exact one (by simp) H
 |cons e es ih=>
  intro S ev bL H;unfold c8 at H ⊢;have P0:=fun e' zN=>bL e' (List.mem_cons_of_mem _ zN);cases hq:ov k e.1 with
  |true=>rw[hq]at H;exact one P0 H
  |false=>
   rw[hq]at H;cases H with
   |cons hk hH tW hv hl=>
    obtain⟨S',h1,h2⟩:=ih P0 hl;refine⟨_,.cons hk hH tW (hv.conv (bL _ List.mem_cons_self)) h1,?_⟩;rw[List.append_assoc];exact h2.append_left _
theorem uK {k:Value} {v:TV}:∀{es:List (Value×TV)} {e:Value×TV},e∈c8 es k v→e=(k,v)∨e∈es
 |[],e,h=>by simp[c8]at h;exact .inl h
 |a::l,e,h=>by
  unfold c8 at h;split at h
  ·rcases List.mem_cons.1 h with rfl |h
   ·exact .inl rfl
   ·exact .inr (List.mem_cons_of_mem _ h)
  ·rcases List.mem_cons.1 h with rfl |h
   ·exact .inr List.mem_cons_self
   ·rcases uK h with h|h
    ·exact .inl h
    ·exact .inr (List.mem_cons_of_mem _ h)
def SY (X:Cx) (ρ:Gh) (F:Nat→Prop) (_:Ob) (c:Nat) (h:ab) (S:Nat→Ft) (U:List Nat):Li→Prop
 | .c t y=>∀S0 v,b8 c ρ F h X.base S0 [t] [v]→∃S1,CR F h X.base S1 (.c (.own y) v)∧S1.Perm (S0++U.flatMap S)
 | .k l m=>∀S0 vs,b8 c ρ F h X.base S0 l vs→∃S1,CR F h X.base S1 (.cs m vs)∧S1.Perm (S0++U.flatMap S)
 | .b q y=>∀yo n S0 l,q=some yo→OR c ρ F h X.base n S0 yo→ρ n=some l→∃S1,CR F h X.base S1 (.o y l)∧S1.Perm (S0++U.flatMap S)
 | .q op pk=>∀es z cs S0,(∀e∈es,e.length=z)→(∀e∈es,∀t∈e,kI t=true)→(∀p∈op,p.1<es.length∧p.2.length=z)→b8 c ρ F h X.base S0 (bZ es op).flatten cs→
  ∃S1,b8 c ρ F h X.base S1 (bZ es pk).flatten cs∧S1.Perm (S0++U.flatMap S)∧(∀e∈bZ es pk,e.length=z∧∀t∈e,kI t=true)∧(bZ es pk).length=es.length
 | .m op pk=>∀es kd ev S0,(∀e∈es,∀t∈ay e.2,kI t=true)→gj c ρ F h X.base kd S0 (Hg es op) ev→∃S1,gj c ρ F h X.base kd S1 (Hg es pk) ev∧S1.Perm (S0++U.flatMap S)∧∀e∈Hg es pk,∀t∈ay e.2,kI t=true
theorem b8.CH {base:Nat} {S0:Ft} {t:TV} {v:Value} (H:b8 c ρ F h base S0 [t] [v]) (hp:dr t=true):S0=[]∧VR c ρ F h t v:=by
 obtain⟨h1,h2⟩:=H.OU (fun t v hv hf=>hv.c6 hf) (by simpa using hp);exact⟨h2,h1.head⟩
theorem E7 (y:TO) {m:Nat} {l:Loc} {v:Value} (hv:VR c ρ F h (Aq y m) v) (hl:ρ m=some l):VR 1 (fun _=>some l) F h (Aq y 0) v:=by
 cases y with
 |cells cs=>cases hv with|ptr hb=>exact .ptr (hl.symm.trans hb)
 |map kd es=>cases hv with|mp hb=>exact .mp (hl.symm.trans hb)
 |eC kd es op=>cases hv with|mp hb=>exact .mp (hl.symm.trans hb)
 |arr z w es=>cases hv with|tk hn h1 ha h0=>exact .tk om h1 (fun b z len hx=>ha b z len (hl.trans hx)) (fun z hx=>h0 z (hl.trans hx))
 |cm z es op=>cases hv with|tk hn h1 ha h0=>exact .tk om h1 (fun b z len hx=>ha b z len (hl.trans hx)) (fun z hx=>h0 z (hl.trans hx))
 |gK ks=>cases hv with|bg hb=>exact .bg (hl.symm.trans hb)
theorem OR.loc {base n:Nat} {S:Ft} {y:TO} (H:OR c ρ F h base n S y):∃l,ρ n=some l:=by cases H<;>exact⟨_,by assumption⟩
theorem gR.yZ {U:List Nat} {i:Li} (L:gR o U i):∀l m,i= .k l m→l.length=m.length∧∀t∈m,kI t=true:=by
 induction L with
 |PR=>rintro l m e;cases e;exact⟨rfl,by simp⟩
 |PS _ _ _ ih=>
  rintro l m e;cases e;obtain⟨h1,h2⟩:=ih _ _ rfl;refine⟨by simp[h1],fun t ht=>?_⟩;rcases List.mem_cons.1 ht with rfl |ht
  ·rfl
  ·exact h2 t ht
 |UY _ hf _ ih=>
  rintro l m e;cases e;obtain⟨h1,h2⟩:=ih _ _ rfl;refine⟨by simp[h1],fun t ht=>?_⟩;rcases List.mem_cons.1 ht with rfl |ht
  ·unfold kI;split<;>first|rfl |exact hf
  ·exact h2 t ht
 |_=>rintro l m e;cases e
theorem CR.SZ {base:Nat}:∀{l:List TV} {m:List Value},cX 0 qR F h l m→(∀t∈l,M.fz t=true)→CR F h base [] (.cs l m)
 |[],m,H,_=>by rw[H.bu];exact .nil
 |t::l,m,H,hf=>by
  obtain⟨v,m',rfl,h1,h2⟩:=H.aG;exact .cons (S:=[]) (.fz (hf t List.mem_cons_self) h1) (CR.SZ h2 fun t ht=>hf t (List.mem_cons_of_mem _ ht))
theorem E8 {v:TV} {x:Value} (hf:Ap v=true) (hv:VR c ρ F h v x):cF v=eG x∧(∀t∈ay v,fz t=true)∧cX 0 qR F h (ay v) x.cells.toList:=by
 have h0:=hv.tu (c':=0) (ρ':=qR) hf;have one:(∀cs,v≠ .agg cs)→cF v=eG x∧(∀t∈ay v,fz t=true)∧cX 0 qR F h (ay v) x.cells.toList:=by
  intro yB;have e1:ay v=[v]:=by cases v<;>first|rfl |exact absurd rfl (yB _)
  have e2:fz v=true:=by cases v<;>first|exact hf|exact absurd rfl (yB _)
  have e3:cF v=false:=by cases v<;>first|rfl |exact absurd rfl (yB _)
  have hx:∀a,x≠ .agg a:=by
   rintro a rfl;cases h0 with
   |j=>simp[fz]at e2
   |s hp=>simp[ar]at hp
   |tk _ h1=>simp[E3]at h1
   |sv _ h1=>simp[E3]at h1
   |pv _ h1=>simp[E3]at h1
   |wp _ h1=>simp[OT]at h1
   |agg=>exact yB _ rfl
  have e4:eG x=false:=by cases x<;>first|rfl |exact absurd rfl (hx _)
  have e5:x.cells= #[x]:=by cases x<;>first|rfl |exact absurd rfl (hx _)
  rw[e1,e3,e4,e5];exact⟨rfl,by simpa using e2,.cons h0 .nil⟩
 cases v with
 |agg cs=>
  obtain⟨a,rfl,h1⟩:=h0.dN;exact⟨rfl,fun t ht=>List.all_eq_true.1 hf t ht,h1⟩
 |_=>exact one (by intro cs e;cases e)
theorem CR.MV {base kd:Nat}:∀{es:List (Value×TV)} {ev:List MapEntry},es.length=ev.length→(∀(i:Nat) e e',es[i]? =some e→ev[i]? =some e'→e'.key=e.1∧(0<kd∧aR e.1=kd)∧Ap e.2=true∧VR c ρ F h e.2 e'.val)→CR F h base [] (.es kd es ev)
 |[],[],_,_=>.E4
 |[],_::_,h,_=>by simp at h
 |_::_,[],h,_=>by simp at h
 |e::es,e'::ev,hl,hc=>by
  obtain⟨h1,h2,h3,h4⟩:=hc 0 e e' rfl rfl;obtain⟨k1,k2,k3⟩:=E8 h3 h4;exact .xh (S:=[]) h1 h2 k1 (CR.SZ k3 k2) (CR.MV (by simpa using hl) fun i x x' q1 q2=>hc (i+1) x x' (by simpa using q1) (by simpa using q2))
theorem fJ {z:Nat}:∀{es:List (List TV)} {cs:List Value},cs.length=es.length*z→(∀e∈es,e.length=z)→(∀(i j:Nat) e t v,es[i]? =some e→e[j]? =some t→cs[i*z+j]? =some v→VR c ρ F h t v)→cX c ρ F h es.flatten cs
 |[],cs,hl,_,_=>by
  have:cs=[]:=List.length_eq_zero_iff.1 (by simpa using hl);subst this;exact .nil
 |e::es,cs,hl,he,hc=>by
  have hz:=he e List.mem_cons_self;have e1:cs=cs.take z++cs.drop z:=(List.take_append_drop _ _).symm;rw[List.length_cons,Nat.add_mul]at hl;rw[e1,List.flatten_cons];refine cX.append ⟨by simp;omega,fun j t v q1 q2=>?_⟩ (fJ (z:=z) (by simp;omega) (fun e zN=>he e (List.mem_cons_of_mem _ zN)) fun i j e t v q1 q2 q3=>?_)
  ·rw[List.getElem?_take]at q2;split at q2
   ·exact hc 0 j e t v rfl q1 (by rw[←q2];congr 1;omega)
   ·cases q2
  ·rw[List.getElem?_drop]at q3;exact hc (i+1) j e t v (by simpa using q1) q2 (by rw[←q3];congr 1;rw[Nat.add_mul];omega)
theorem Zl.len {x y:List TV} (H:Zl x y):y.length=x.length:=by
 induction H with
 |nil=>rfl
 |same _ ih=>simp[ih]
 |zero _ ih=>simp[ih]
theorem Zl.fz {x y:List TV} (H:Zl x y):(∀t∈x,M.fz t=true)→∀t∈y,M.fz t=true:=by
 induction H with
 |nil=>exact fun h=>h
 |same _ ih=>
  intro h t ht;rcases List.mem_cons.1 ht with rfl |ht
  ·exact h _ List.mem_cons_self
  ·exact ih (fun t ht=>h t (List.mem_cons_of_mem _ ht)) t ht
 |zero _ ih=>
  intro h t ht;rcases List.mem_cons.1 ht with rfl |ht
  ·rfl
  ·exact ih (fun t ht=>h t (List.mem_cons_of_mem _ ht)) t ht
theorem Zl.vr {x y:List TV} (H:Zl x y):∀(j:Nat) t',y[j]? =some t'→∃t,x[j]? =some t∧∀v,VR c ρ F h t v→VR c ρ F h t' v:=by
 induction H with
 |nil=>intro j t' h;simp at h
 |same _ ih=>
  intro j t' h;cases j with
  |zero=>simp at h;subst h;exact⟨_,rfl,fun _ h=>h⟩
  |succ j=>simpa using ih j t' (by simpa using h)
 |zero _ ih=>
  intro j t' h;cases j with
  |zero=>
   simp at h;subst h;refine⟨_,rfl,fun v hv=>?_⟩;cases hv with
   |nil=>exact .nil rfl
   |sl _ _ hz=>exact absurd hz (Nat.lt_irrefl 0)
  |succ j=>simpa using ih j t' (by simpa using h)
theorem gR.rel (H:Mem X ρ F o c h) {S:Nat→Ft} (K:MO X ρ F o c h S) {U:List Nat} {i:Li} (L:gR o U i):SY X ρ F o c h S U i∧∀u∈U,∃y,look o u=some y:=by
 have named:∀{U:List Nat} {m:Nat} {y:TO},dr (Aq y m)=true→(SY X ρ F o c h S U (.b (look o m) y)∧∀u∈U,∃y,look o u=some y)→(∃y0,look o m=some y0)→SY X ρ F o c h S (m::U) (.c (Aq y m) y)∧∀u∈m::U,∃y,look o u=some y:=by
  rintro U m y hp ⟨yf,yg⟩ ⟨y0,hl⟩;refine⟨fun S0 v hv=>?_,fun u hu=>?_⟩
  ·obtain⟨rfl,pn⟩:=hv.CH hp;have hO:=K.bR m y0 hl;obtain⟨l,du⟩:=hO.loc;obtain⟨S1,h1,h2⟩:=yf y0 m _ l hl hO du;exact⟨S1,.own h1 (E7 y pn du),by simpa using h2⟩
  ·rcases List.mem_cons.1 hu with rfl |hu
   ·exact⟨y0,hl⟩
   ·exact yg u hu
 have qT:∀{U:List Nat} {m:Nat} {y:TO},gR o U (.b (look o m) y)→∃y0,look o m=some y0:=by
  intro U m y hL;generalize hq:look o m=q at hL;cases q with
  |none=>cases hL
  |some y0=>exact⟨y0,rfl⟩
 have p0:∀(S0:Ft),S0.Perm (S0++([]:List Nat).flatMap S):=fun S0=>by simp
 induction L with
 |same hy=>obtain rfl:=hy.eq;exact⟨fun S0 v hv=>⟨S0,by
  cases hv with
  |vr hv _=>cases hv
  |cl hv hl=>cases hl;simpa using hv,p0 S0⟩,by simp⟩
 |ptr hL ih=>exact named rfl ih (qT hL)
 |mp hL ih=>exact named (y:=.map _ _) rfl ih (qT hL)
 |V1 hL ih=>exact named (y:=.eC _ _ _) rfl ih (qT hL)
 |tk hL ih=>exact named (y:=.arr _ _ _) rfl ih (qT hL)
 |V2 hL ih=>exact named (y:=.cm _ _ _) rfl ih (qT hL)
 |bg hl hL ih=>obtain rfl:=hl.eq;exact named (y:=.gK _) rfl ih (qT hL)
 |yP h0=>
  refine⟨fun S0 v hv=>?_,by simp⟩;obtain⟨rfl,pn⟩:=hv.CH rfl;refine⟨[],.own (.yP (aF.1 h0)) ?_,p0 _⟩;cases pn with
  |nil=>exact .tk om rfl (fun b z len hx=>by cases hx) (fun z hx=>.inl rfl)
  |sl h1 h2 h3=>omega
 |fi h0=>
  refine⟨fun S0 v hv=>?_,by simp⟩;obtain⟨rfl,pn⟩:=hv.CH rfl;refine⟨[],.own (.fi (aF.1 h0)) ?_,p0 _⟩;cases pn with
  |nil=>exact .tk om rfl (fun b z len hx=>by cases hx) (fun z hx=>.inl rfl)
  |sl h1 h2 h3=>omega
 |cells _ ih=>
  refine⟨fun yo n S0 l e hO du=>?_,ih.2⟩;cases e;cases hO with
  |cells hb hg ht hc=>
   rw[hb]at du;cases du;obtain⟨S1,h1,h2⟩:=ih.1 _ _ hc;exact⟨_,.cells hg ht h1,h2.cons _⟩
 |map he=>
  obtain rfl:=he.eq;refine⟨fun yo n S0 l e hO du=>?_,by simp⟩;cases e;cases hO with
  |map hb hg hl hc bA=>
   rw[hb]at du;cases du;exact⟨_,.map hg hl (fun i e e' q1 q2=>let⟨r1,r2,r3,r4⟩:=hc i e e' q1 q2;⟨r1,r2,r3,r4.tu r3⟩) bA,p0 _⟩
 |J8 he=>
  obtain rfl:=he.eq;refine⟨fun yo n S0 l e hO du=>?_,by simp⟩;cases e;cases hO with
  |map hb hg hl hc bA=>
   rw[hb]at du;cases du;exact⟨_,.eC hg (CR.MV hl hc) bA,p0 _⟩
 |arr he=>
  obtain rfl:=he.eq;refine⟨fun yo n S0 l e hO du=>?_,by simp⟩;cases e;cases hO with
  |nil hb hz=>rw[hb]at du;cases du;exact⟨_,.yP hz,p0 _⟩
  |arr hb hg hf ht dc hz hl he fy hc hF=>
   rw[hb]at du;cases du;exact⟨_,.arr hg hf ht dc hz hl he fy (fun i j e t v q1 q2 q3=>(hc i j e t v q1 q2 q3).c6 (fy e (List.mem_of_getElem? q1) t (List.mem_of_getElem? q2))) hF,p0 _⟩
 |SM ha bE E9=>
  rename_i z w a b l0 x y;have ea:=ha.eq;have eb:=bE.eq;refine⟨fun yo n S0 l e hO du=>?_,by simp⟩;cases e;cases hO with
  |nil hb hz=>exact absurd ea (by simp)
  |arr hb hg hf ht dc hz hl he fy hc hF=>
   rw[hb]at du;cases du;have hlen:a.length=b.length:=by rw[ea,←eb];simp
   have hx:x∈a:=by rw[ea];simp
   have key:∀e'∈b,e'∈a∨e'=y:=fun e' zN=>by
    rw[←eb]at zN;rcases List.mem_append.1 zN with q|q
    ·exact .inl (by rw[ea];exact List.mem_append_left _ q)
    ·exact .inr (by simpa using q)
   have S5:∀(i j:Nat) e' t',b[i]? =some e'→e'[j]? =some t'→∃e t,a[i]? =some e∧e[j]? =some t∧∀v,VR c ρ F h t v→VR c ρ F h t' v:=fun i j e' t' q1 q2=>by
    rw[←eb]at q1;by_cases hi:i<l0.length
    ·rw[List.getElem?_append_left hi]at q1;exact⟨e',t',by rw[ea,List.getElem?_append_left hi];exact q1,q2,fun _ h=>h⟩
    ·rw[List.getElem?_append_right om]at q1;have U6:i - l0.length=0:=by have:=(List.getElem?_eq_some_iff.1 q1).1;simp at this;omega
     rw[U6]at q1;simp at q1;subst q1;obtain⟨t,q3,q4⟩:=E9.vr j t' q2;exact⟨x,t,by rw[ea,List.getElem?_append_right om,U6];rfl,q3,q4⟩
   have wC:∀e∈b,∀t∈e,fz t=true:=fun e' zN=>by
    rcases key e' zN with q|rfl
    ·exact fy e' q
    ·exact E9.fz (fy x hx)
   rw[hlen]at hl ⊢;exact⟨_,.arr hg hf ht dc hz hl (fun e' zN=>by
    rcases key e' zN with q|rfl
    ·exact he e' q
    ·rw[E9.len];exact he x hx) wC (fun i j e' t' v q1 q2 q3=>by
    obtain⟨e,t,r1,r2,r3⟩:=S5 i j e' t' q1 q2;exact(r3 v (hc i j e t v r1 r2 q3)).c6 (wC e' (List.mem_of_getElem? q1) t' (List.mem_of_getElem? q2))) hF,p0 _⟩
 |J9 he=>
  obtain rfl:=he.eq;refine⟨fun yo n S0 l e hO du=>?_,by simp⟩;cases e;cases hO with
  |nil hb hz=>rw[hb]at du;cases du;exact⟨_,.fi hz,p0 _⟩
  |arr hb hg hf ht dc hz hl he fy hc hF=>
   rw[hb]at du;cases du;refine⟨_,.cm hg hf ht dc hz hl he (CR.SZ (fJ hl he fun i j e t v q1 q2 q3=>(hc i j e t v q1 q2 q3).c6 (fy e (List.mem_of_getElem? q1) t (List.mem_of_getElem? q2))) fun t ht=>?_),p0 _⟩;obtain⟨e,h1,h2⟩:=List.mem_flatten.1 ht;exact fy e h1 t h2
 |cm hs he _ ih=>
  refine⟨fun yo n S0 l e hO du=>?_,ih.2⟩;cases e;obtain rfl:=he.eq;cases hO with
  |fi hb hz=>rw[hb]at du;cases du;cases hs;exact⟨_,.fi hz,by
   obtain⟨S1,h1,h2,_⟩:=ih.1 [] 1 [] [] (by simp) (by simp) (by simp) .nil;cases h1;exact h2⟩
  |cm hb hg hf ht dc hz hl he bL e7 hc=>
   rw[hb]at du;cases du;obtain⟨S1,h1,h2,h3,h4⟩:=ih.1 _ _ _ _ he bL e7 hc;have:=CR.cm (S:=S1) hg hf ht dc hz (by rw[hl,h4]) (fun e he=>(h3 e he).1) (h1.CG fun t ht=>by
    obtain⟨e,q1,q2⟩:=List.mem_flatten.1 ht;exact(h3 e q1).2 t q2)
   rw[h4]at this;exact⟨_,this,h2.cons _⟩
 |EY hs he gJ _ ih=>
  refine⟨fun yo n S0 l e hO du=>?_,ih.2⟩;cases e;obtain rfl:=he.eq;cases hO with
  |fi hb hz=>rw[hb]at du;cases du;cases hs;exact⟨_,.yP hz,by
   obtain⟨S1,h1,h2,_⟩:=ih.1 [] 1 [] [] (by simp) (by simp) (by simp) .nil;cases h1;exact h2⟩
  |cm hb hg hf ht dc hz hl he bL e7 hc=>
   rw[hb]at du;cases du;obtain⟨S1,h1,h2,h3,h4⟩:=ih.1 _ _ _ _ he bL e7 hc;have:=CR.cm (S:=S1) hg hf ht dc hz (by rw[hl,h4]) (fun e he=>(h3 e he).1) (h1.CG fun t ht=>by
    obtain⟨e,q1,q2⟩:=List.mem_flatten.1 ht;exact(h3 e q1).2 t q2)
   rw[h4]at this;exact⟨_,this.EY gJ,h2.cons _⟩
 |eC hs he _ ih=>
  refine⟨fun yo n S0 l e hO du=>?_,ih.2⟩;cases e;obtain rfl:=he.eq;cases hO with
  |eC hb hg bL hc bA=>
   rw[hb]at du;cases du;obtain⟨S1,h1,h2,h3⟩:=ih.1 _ _ _ _ bL hc;exact⟨_,.eC hg (h1.CG h3) bA,h2.cons _⟩
 |gK he=>
  obtain rfl:=he.eq;refine⟨fun yo n S0 l e hO du=>?_,by simp⟩;cases e;cases hO with
  |gK hb hg=>rw[hb]at du;cases du;exact⟨_,.gK hg,p0 _⟩
 |PR=>exact⟨fun S0 vs hv=>by cases hv;exact⟨[],.nil,by simp⟩,by simp⟩
 |PS _ _ yf yg=>
  rename_i U1 U2 a y l m _ _;refine⟨fun S0 vs hv=>?_,fun u hu=>(List.mem_append.1 hu).elim (yf.2 u) (yg.2 u)⟩;have split:∃A B v mF,S0=A++B∧vs=v::mF∧b8 c ρ F h X.base A [a] [v]∧b8 c ρ F h X.base B l mF:=by
   cases hv with
   |vr h1 h2=>exact⟨[],_,_,_,rfl,rfl,.vr h1 .nil,h2⟩
   |cl h1 h2=>exact⟨_,_,_,_,rfl,rfl,by simpa using b8.cl h1 .nil,h2⟩
  obtain⟨A,B,v,mF,rfl,rfl,h1,h2⟩:=split;obtain⟨A1,k1,k2⟩:=yf.1 A v h1;obtain⟨B1,k3,k4⟩:=yg.1 B mF h2;refine⟨A1++B1,.cons k1 k3,(k2.append k4).trans ?_⟩;rw[List.flatMap_append];simp only[List.append_assoc];refine List.Perm.append_left _ ?_;rw[←List.append_assoc,←List.append_assoc];exact List.perm_append_comm.append_right _
 |UY hv hf _ ih=>
  rename_i U1 a b l m _;refine⟨fun S0 vs JD=>?_,ih.2⟩;have V8:dr a=true:=by cases hv<;>first|rfl |simp[M.fz]at hf
  have split:∃v mF,vs=v::mF∧VR c ρ F h a v∧b8 c ρ F h X.base S0 l mF:=by
   cases JD with
   |vr h1 h2=>exact⟨_,_,rfl,h1,h2⟩
   |cl h1 h2=>
    cases h1 with
    |fz LD pn=>exact⟨_,_,rfl,pn.c6 LD,h2⟩
    |own=>simp[dr]at V8
  obtain⟨v,mF,rfl,h1,h2⟩:=split;obtain⟨S1,k1,k2⟩:=ih.1 S0 mF h2;exact⟨S1,.cons (S:=[]) (.fz hf ((p9 (zf:=fun _=>0) H _ _ _ hv h1).c6 hf)) k1,k2⟩
 |q0=>exact⟨fun es z cs S0 hz bL _ hc=>⟨S0,hc,p0 S0,fun e he=>⟨hz e he,bL e he⟩,rfl⟩,by simp⟩
 |q1 hL ih=>
  rename_i U1 i a b;refine⟨fun es z cs S0 hz bL e7 hc=>?_,ih.2⟩;obtain⟨k1,k2⟩:=e7 (i,a) (by simp);simp only at k1 k2;obtain⟨f1,f2⟩:=hL.yZ _ _ rfl;have hY:∀e∈es.set i a,e.length=z:=fun e he=>by
   rcases List.mem_or_eq_of_mem_set he with h1|rfl
   ·exact hz e h1
   ·exact k2
  obtain⟨r1,r2⟩:=dI hY (i:=i) (e:=a) (by simp[k1]);obtain⟨S1,q1,q2⟩:=b8.PZ (l2:=b) (V:=U1.flatMap S) hc (i*z) z fun S2 h2=>by
   have e:((bZ es [(i,a)]).flatten.drop (i*z)).take z=a:=r1;rw[e]at h2;obtain⟨S3,h3,h4⟩:=ih.1 S2 _ h2;exact⟨S3,b8.o6 h3 _ _ rfl,h4⟩
  have e2:(bZ es [(i,b)]).flatten=(bZ es [(i,a)]).flatten.take (i*z)++(b++((bZ es [(i,a)]).flatten.drop (i*z)).drop z):=by
   have:=iC (e:=b) hY (i:=i) (by simpa using k1);rw[List.set_set]at this;exact this
  rw[←e2]at q1;refine⟨S1,q1,q2,fun e he=>?_,by simp[bZ]⟩;rcases List.mem_or_eq_of_mem_set he with h1|rfl
  ·exact⟨hz e h1,bL e h1⟩
  ·exact⟨om,f2⟩
 |q2 PT hL hR ih U7=>
  rename_i U1 U2 i k a b a' b';refine⟨fun es z cs S0 hz bL e7 hc=>?_,fun u hu=>(List.mem_append.1 hu).elim (ih.2 u) (U7.2 u)⟩;obtain⟨k1,k2⟩:=e7 (i,a) (by simp);obtain⟨l1,l2⟩:=e7 (k,a') (by simp);simp only at k1 k2 l1 l2;obtain⟨f1,f2⟩:=hL.yZ _ _ rfl;have hc:b8 c ρ F h X.base S0 ((es.set k a').set i a).flatten cs:=hc;have hY:∀e∈(es.set k a').set i a,e.length=z:=fun e he=>by
   rcases List.mem_or_eq_of_mem_set he with h1|rfl
   ·rcases List.mem_or_eq_of_mem_set h1 with h1|rfl
    ·exact hz e h1
    ·exact l2
   ·exact k2
  obtain⟨r1,r2⟩:=dI hY (i:=i) (e:=a) (by simp[k1]);obtain⟨S1,q1,q2⟩:=b8.PZ (l2:=b) (V:=U1.flatMap S) hc (i*z) z fun S2 h2=>by
   have e:(((es.set k a').set i a).flatten.drop (i*z)).take z=a:=r1;rw[e]at h2;obtain⟨S3,h3,h4⟩:=ih.1 S2 _ h2;exact⟨S3,b8.o6 h3 _ _ rfl,h4⟩
  have e2:((es.set k a').set i b).flatten=((es.set k a').set i a).flatten.take (i*z)++(b++(((es.set k a').set i a).flatten.drop (i*z)).drop z):=by
   have:=iC (e:=b) hY (i:=i) (by simpa using k1);rw[List.set_set]at this;exact this
  rw[←e2,List.set_comm _ _ (fun e=>PT e.symm)]at q1;obtain⟨S2,w1,w2,w3,w4⟩:=U7.1 (es.set i b) z cs S1 (fun e he=>by
   rcases List.mem_or_eq_of_mem_set he with h1|rfl
   ·exact hz e h1
   ·omega) (fun e he=>by
   rcases List.mem_or_eq_of_mem_set he with h1|rfl
   ·exact bL e h1
   ·exact f2) (fun p hp=>by simp only[List.mem_singleton]at hp;subst hp;exact⟨by simpa using l1,l2⟩) q1
  have e4:bZ (es.set i b) [(k,b')]=bZ es [(i,b),(k,b')]:=List.set_comm _ _ PT;rw[e4]at w1 w3 w4;refine⟨S2,w1,?_,w3,by rw[w4];simp⟩;rw[List.flatMap_append,←List.append_assoc];exact w2.trans (q2.append_right _)
 |m0=>exact⟨fun es kd ev S0 bL hc=>⟨S0,hc,p0 S0,bL⟩,by simp⟩
 |m1 ha hL ih=>
  rename_i U1 k a b;refine⟨fun es kd ev S0 bL hc=>?_,ih.2⟩;obtain⟨f1,f2⟩:=hL.yZ _ _ rfl;obtain⟨S1,q1,q2⟩:=gj.put (c':=c) (ρ':=ρ) (V:=U1.flatMap S) ha (fun S2 x h2=>by
   obtain⟨S3,h3,h4⟩:=ih.1 S2 _ h2;exact⟨S3,b8.o6 h3 _ _ rfl,h4⟩) bL hc
  refine⟨S1,q1,q2,fun e he=>?_⟩;rcases uK he with rfl |h1
  ·exact f2
  ·exact bL e h1
theorem sU.rel (H:Mem X ρ F o c h) {S:Nat→Ft} (K:MO X ρ F o c h S) {U:List Nat} {a b:List TV} (L:sU ids o U a b):∀{S0:Ft} {vs:List Value},b8 c ρ F h X.base S0 a vs→(∃S1,b8 ids.length (dS ids zf ρ) F h X.base S1 b vs∧S1.Perm (S0++U.flatMap S))∧∀u∈U,∃y,look o u=some y:=by
 induction L with
 |nil=>intro S0 vs hv;cases hv;exact⟨⟨[],.nil,by simp⟩,by simp⟩
 |own hL _ ih=>
  rename_i U1 U2 a y l m _;intro S0 vs hv;have split:∃A B v mF,S0=A++B∧vs=v::mF∧b8 c ρ F h X.base A [a] [v]∧b8 c ρ F h X.base B l mF:=by
   cases hv with
   |vr h1 h2=>exact⟨[],_,_,_,rfl,rfl,.vr h1 .nil,h2⟩
   |cl h1 h2=>exact⟨_,_,_,_,rfl,rfl,by simpa using b8.cl h1 .nil,h2⟩
  obtain⟨A,B,v,mF,rfl,rfl,h1,h2⟩:=split;obtain⟨g1,g2⟩:=hL.rel H K;obtain⟨A1,k1,k2⟩:=g1 A v h1;obtain⟨⟨B1,k3,k4⟩,g3⟩:=ih h2;refine⟨⟨A1++B1,.cl k1 k3,(k2.append k4).trans ?_⟩,fun u hu=>(List.mem_append.1 hu).elim (g2 u) (g3 u)⟩;rw[List.flatMap_append];simp only[List.append_assoc];refine List.Perm.append_left _ ?_;rw[←List.append_assoc,←List.append_assoc];exact List.perm_append_comm.append_right _
 |v hV hp _ ih=>
  rename_i U1 a b l m _;intro S0 vs hv;cases hv with
  |vr h1 h2=>
   obtain⟨⟨S1,k1,k2⟩,k3⟩:=ih h2;exact⟨⟨S1,.vr (p9 H _ _ _ hV h1) k1,k2⟩,k3⟩
  |cl h1 h2=>
   cases h1 with
   |fz LD pn=>
    obtain⟨⟨S1,k1,k2⟩,k3⟩:=ih h2;exact⟨⟨S1,.vr (p9 H _ _ _ hV (pn.c6 LD)) k1,k2⟩,k3⟩
   |own=>simp[dr]at hp
theorem sU.len {U:List Nat} {a b:List TV} (L:sU ids o U a b):a.length=b.length:=by
 induction L with
 |nil=>rfl
 |own _ _ ih=>simp[ih]
 |v _ _ _ ih=>simp[ih]
theorem jH:∀{ids:List (Option Nat)} {k m:Nat},gI c ids=true→ids[k]? =some (some m)→m<c
 |[],k,m,_,h=>by simp at h
 |none::l,k,m,hi,h=>by
  cases k with
  |zero=>simp at h
  |succ k=>exact jH (ids:=l) hi (by simpa using h)
 |some m'::l,k,m,hi,h=>by
  simp only[gI,Bool.and_eq_true,aF]at hi;cases k with
  |zero=>simp at h;subst h;exact hi.1.1
  |succ k=>exact jH (ids:=l) hi.2 (by simpa using h)
theorem kR:∀{ids:List (Option Nat)} {k k' m:Nat},gI c ids=true→ids[k]? =some (some m)→ids[k']? =some (some m)→k=k'
 |[],k,k',m,_,h,_=>by simp at h
 |none::l,k,k',m,hi,h,h'=>by
  cases k with
  |zero=>simp at h
  |succ k=>cases k' with
   |zero=>simp at h'
   |succ k'=>exact congrArg (· +1) (kR (ids:=l) hi (by simpa using h) (by simpa using h'))
 |some m'::l,k,k',m,hi,h,h'=>by
  simp only[gI,Bool.and_eq_true,aF,Bool.not_eq_true',List.contains_eq_mem]at hi;have hn:some m'∉l:=by simpa using hi.1.2
  cases k with
  |zero=>cases k' with
   |zero=>rfl
   |succ k'=>
    simp at h h';subst h;exact absurd (List.mem_of_getElem? h') hn
  |succ k=>cases k' with
   |zero=>
    simp at h h';subst h';exact absurd (List.mem_of_getElem? h) hn
   |succ k'=>exact congrArg (· +1) (kR (ids:=l) hi.2 (by simpa using h) (by simpa using h'))
theorem xj:∀{n k:Nat} {ids:List (Option Nat)},ow n k ids=true→∀i,i<n→ids[i]? =some (some (k+i))
 |0,k,ids,_,i,hi=>by omega
 |n+1,k,[],h,i,hi=>by simp[ow]at h
 |n+1,k,none::l,h,i,hi=>by simp[ow]at h
 |n+1,k,some m::l,h,i,hi=>by
  simp only[ow,Bool.and_eq_true,beq_iff]at h;obtain⟨rfl,h2⟩:=h;cases i with
  |zero=>simp
  |succ i=>
   have:=xj h2 i om;simp only[List.getElem?_cons_succ,this]
   congr 2;omega
def Fe:TO→Nat
 | .arr z _ _=>z
 | .cm z _ _=>z
 |_=>0
def DM (o1:Ob) (n:Nat):Nat:=match look o1 n with|some y=>Fe y|none=>0
theorem fF {base z i:Nat} {S:Ft} {es:List (List TV)} {x:List TV} {cs:List Value} (hz:∀e∈es,e.length=z) (hi:i<es.length) (H:b8 c ρ F h base S (es.set i x).flatten cs):
 ∃S1 S2 S3 v1 v2 v3,S=S1++(S2++S3)∧cs=v1++(v2++v3)∧b8 c ρ F h base S1 (es.flatten.take (i*z)) v1∧b8 c ρ F h base S2 x v2∧b8 c ρ F h base S3 ((es.flatten.drop (i*z)).drop z) v3:=by
 rw[iC hz hi]at H;have h1:(es.flatten.take (i*z)).length=i*z:=by
  obtain⟨e,he⟩:∃e,es[i]? =some e:=⟨_,List.getElem?_eq_getElem hi⟩;have:=(dI hz he).2;rw[Nat.add_mul]at this;rw[List.length_take];omega
 obtain⟨S1,R,rfl,k1,k2⟩:=H.split (i*z);rw[List.take_append_of_le_length om,List.take_of_length_le om]at k1;rw[List.drop_append,List.drop_eq_nil_of_le om,h1,Nat.sub_self,List.drop_zero,List.nil_append]at k2;obtain⟨S2,S3,rfl,k3,k4⟩:=k2.split x.length;rw[List.take_append_of_le_length (Nat.le_refl _),List.take_of_length_le (Nat.le_refl _)]at k3;rw[List.drop_append,List.drop_eq_nil_of_le (Nat.le_refl _),Nat.sub_self,List.drop_zero,List.nil_append]at k4;exact⟨S1,S2,S3,_,_,_,rfl,by rw[List.take_append_drop,List.take_append_drop],k1,k3,k4⟩
theorem jn {base z i:Nat} {S1 S2 S3:Ft} {es:List (List TV)} {y:List TV} {v1 v2 v3:List Value} (hz:∀e∈es,e.length=z) (hi:i<es.length)
 (h1:b8 c ρ F h base S1 (es.flatten.take (i*z)) v1) (h2:b8 c ρ F h base S2 y v2) (h3:b8 c ρ F h base S3 ((es.flatten.drop (i*z)).drop z) v3):b8 c ρ F h base (S1++(S2++S3)) (es.set i y).flatten (v1++(v2++v3)):=by
 rw[iC hz hi];exact h1.join (h2.join h3)
theorem o8 {es:List (List TV)} (bL:∀e∈es,∀t∈e,kI t=true):∀t∈es.flatten,kI t=true:=fun t ht=>by
 obtain⟨e,h1,h2⟩:=List.mem_flatten.1 ht;exact bL e h1 t h2
theorem mq.Kc {t:TV} (h:fz t=true):mq ids o (.v t) (.v t):=by
 cases t with
 |s v=>exact .s Lz.rfl
 |sl z es fl=>exact .sl (by simp) (by simp) Lz.rfl
 |k9 t v=>
  cases v with
  |s v=>exact .k9 (.s Lz.rfl)
  |_=>simp[fz]at h
 |de g a c=>
  cases a with
  |nil=>
   cases c with
   |nil=>exact .de .nil .nil
   |cons=>simp[fz]at h
  |cons=>simp[fz]at h
 |_=>simp[fz]at h
theorem sU.DN:∀{l:List TV},(∀t∈l,kI t=true)→sU ids o [] l l
 |[],_=>.nil
 |t::l,h=>by
  have ht:=h t List.mem_cons_self;have ih:=sU.DN fun x hx=>h x (List.mem_cons_of_mem _ hx);by_cases hq:dr t=true
  ·refine .v (mq.Kc ?_) hq ih;cases t<;>first|exact ht|(simp[dr]at hq)
  ·cases t with
   |own y=>exact .own (.same Lz.rfl) ih
   |_=>simp[dr]at hq
theorem sU.append {U:List Nat} {a b:List TV} (L:sU ids o U a b) {a' b':List TV} (L':sU ids o [] a' b'):sU ids o U (a++a') (b++b'):=by
 induction L with
 |nil=>exact L'
 |own h _ ih=>exact .own h ih
 |v h hp _ ih=>exact .v h hp ih
inductive ma (ids:List (Option Nat)) (o:Ob):List (List TV)→List (List TV)→Prop
 |nil:ma ids o [] []
 |cons {x y:List TV} {l m:List (List TV)} (h:sU ids o [] x y) (k:ma ids o l m):ma ids o (x::l) (y::m)
theorem ma.refl:∀{es:List (List TV)},(∀e∈es,∀t∈e,kI t=true)→ma ids o es es
 |[],_=>.nil
 |e::_,h=>.cons (sU.DN (h e List.mem_cons_self)) (ma.refl fun x hx=>h x (List.mem_cons_of_mem _ hx))
theorem ma.set {l m:List (List TV)} (R:ma ids o l m) {x y:List TV} (h:sU ids o [] x y):∀i:Nat,ma ids o (l.set i x) (m.set i y):=by
 induction R with
 |nil=>intro i;exact .nil
 |cons h1 k ih=>
  intro i;cases i with
  |zero=>exact .cons h k
  |succ i=>exact .cons h1 (ih i)
theorem ma.flatten {l m:List (List TV)} (R:ma ids o l m):sU ids o [] l.flatten m.flatten:=by
 induction R with
 |nil=>exact .nil
 |cons h _ ih=>rw[List.flatten_cons,List.flatten_cons];exact h.append ih
theorem xf.rows {op EZ:List (Nat×List TV)} (L:xf ids o op EZ) {es:List (List TV)} (bL:∀e∈es,∀t∈e,kI t=true):ma ids o (bZ es op) (bZ es EZ)∧∀p∈EZ,∃x,(p.1,x)∈op∧x.length=p.2.length:=by
 induction L with
 |nil=>exact⟨.refl bL,by simp⟩
 |cons h _ ih=>
  refine⟨ih.1.set h _,fun p hp=>?_⟩;rcases List.mem_cons.1 hp with rfl |hp
  ·exact⟨_,List.mem_cons_self,h.len⟩
  ·obtain⟨x,q1,q2⟩:=ih.2 p hp;exact⟨x,List.mem_cons_of_mem _ q1,q2⟩
theorem yR.rel (H:Mem X ρ F o c h) {S:Nat→Ft} (K:MO X ρ F o c h S) {U:List Nat} {q:Option (Option TO)} {y:TO} (L:yR ids o U q y) {n:Nat} (hq:q=yQ ids o n) (JG:zf n=Fe y):
 ∃S1,OR ids.length (dS ids zf ρ) F h X.base n S1 y∧((∃m,ids[n]? =some (some m)∧(∃y,look o m=some y)∧S1.Perm ((m::U).flatMap S))∨(S1=[]∧U=[]))∧∀u∈U,∃y,look o u=some y:=by
 have src:∀y0,some (some y0)=yQ ids o n→∃m,ids[n]? =some (some m)∧look o m=some y0:=by
  intro y0 hs;unfold yQ at hs;split at hs
  ·rename_i m hm;split at hs
   ·rename_i y1 hy;cases hs;exact⟨m,hm,hy⟩
   ·cases hs
  ·cases hs
  ·cases hs
 have U8:some none=yQ ids o n→ids[n]? =some none:=by
  intro hs;unfold yQ at hs;split at hs
  ·split at hs<;>cases hs
  ·assumption
  ·cases hs
 have fin:∀{U:List Nat} {y y0:TO},some (some y0)=yQ ids o n→(∀m S0,ids[n]? =some (some m)→look o m=some y0→dS ids zf ρ n=ρ m→OR c ρ F h X.base m S0 y0→∃S1,OR ids.length (dS ids zf ρ) F h X.base n S1 y∧S1.Perm (S0++U.flatMap S))→(∀u∈U,∃y,look o u=some y)→
  ∃S1,OR ids.length (dS ids zf ρ) F h X.base n S1 y∧((∃m,ids[n]? =some (some m)∧(∃y,look o m=some y)∧S1.Perm ((m::U).flatMap S))∨(S1=[]∧U=[]))∧∀u∈U,∃y,look o u=some y:=by
  intro U y y0 hs hf hU;obtain⟨m,h1,h2⟩:=src y0 hs;obtain⟨S1,k1,k2⟩:=hf m _ h1 h2 (by simp[dS,h1]) (K.bR m y0 h2);exact⟨S1,k1,.inl ⟨m,h1,⟨y0,h2⟩,by simpa using k2⟩,hU⟩
 have p0:∀(S0:Ft),S0.Perm (S0++([]:List Nat).flatMap S):=fun S0=>by simp
 have closed:∀{U:List Nat} {y y0:TO},some (some y0)=yQ ids o n→gR o U (.b (some y0) y)→∃S1,OR ids.length (dS ids zf ρ) F h X.base n S1 y∧((∃m,ids[n]? =some (some m)∧(∃y,look o m=some y)∧S1.Perm ((m::U).flatMap S))∨(S1=[]∧U=[]))∧∀u∈U,∃y,look o u=some y:=by
  intro U y y0 hs hL;obtain⟨g1,g2⟩:=hL.rel H K;refine fin hs (fun m S0 h1 h2 dR hO=>?_) g2;obtain⟨l,hl⟩:=hO.loc;obtain⟨S1,k1,k2⟩:=g1 y0 m S0 l rfl hO hl;exact⟨S1,OR.o6 k1 (dR.trans hl),k2⟩
 cases L with
 |cells hN=>
  obtain⟨m,h1,h2⟩:=src _ hq;have hO:=K.bR m _ h2;refine fin hq (fun m' S0 _ _ dR Kd=>?_) ?_
  ·cases Kd with
   |cells hb hg ht hc=>
    obtain⟨⟨S1,k1,k2⟩,_⟩:=hN.rel (zf:=zf) H K hc;exact⟨_,.cells (dR.trans hb) hg ht k1,k2.cons _⟩
  ·generalize S m=S0 at hO;cases hO with
   |cells hb hg ht hc=>exact(hN.rel (zf:=zf) H K hc).2
 |map he=>exact closed hq (.map he)
 |J8 he=>exact closed hq (.J8 he)
 |arr he=>exact closed hq (.arr he)
 |J9 he=>exact closed hq (.J9 he)
 |cm hs he hL=>exact closed hq (.cm hs he hL)
 |EY hs he gJ hL=>exact closed hq (.EY hs he gJ hL)
 |eC hs he hL=>exact closed hq (.eC hs he hL)
 |gK he=>exact closed hq (.gK he)
 |SN he hi hN=>
  rename_i z a b i j x w;obtain rfl:=he.eq;obtain rfl:=hi.eq;obtain⟨m,h1,h2⟩:=src _ hq;have hO:=K.bR m _ h2;refine fin hq (fun m' S0 _ _ dR Kd=>?_) ?_
  ·cases Kd with
   |cm hb hg hf ht dc hz hl he bL e7 hc=>
    obtain⟨o1,o2⟩:=e7 (i,x) (by simp);obtain⟨S1,S2,S3,v1,v2,v3,rfl,rfl,a1,a2,a3⟩:=fF he o1 hc;obtain⟨⟨S4,k1,k2⟩,_⟩:=hN.rel (zf:=zf) H K a2;have fc:=o8 bL;have:=jn he o1 (a1.conv (c':=ids.length) (ρ':=dS ids zf ρ) fun t ht=>fc t (List.mem_of_mem_take ht)) k1 (a3.conv fun t ht=>fc t (List.mem_of_mem_drop (List.mem_of_mem_drop ht)));refine⟨_,.cm (dR.trans hb) hg hf ht dc hz hl he bL (fun p hp=>?_) this,?_⟩
    ·simp only[List.mem_singleton]at hp;subst hp;exact⟨o1,by rw[←hN.len];exact o2⟩
    ·refine List.Perm.cons _ ((List.Perm.append_left S1 (k2.append_right S3)).trans ?_);show List.Perm _ ((S1++(S2++S3))++U.flatMap S);simp only[List.append_assoc];exact(List.perm_append_comm.append_left _).append_left _
  ·generalize S m=S0 at hO;cases hO with
   |cm hb hg hf ht dc hz hl he bL e7 hc=>
    obtain⟨o1,o2⟩:=e7 (i,x) (by simp);obtain⟨S1,S2,S3,v1,v2,v3,rfl,rfl,a1,a2,a3⟩:=fF he o1 hc;exact(hN.rel (zf:=zf) H K a2).2
 |SO he hk ha hN=>
  rename_i kd a b k k' x w;obtain rfl:=he.eq;obtain rfl:=hk.eq;obtain⟨m,h1,h2⟩:=src _ hq;have hO:=K.bR m _ h2;have hU:∀u∈U,∃y,look o u=some y:=by
   generalize S m=S0 at hO;cases hO with
   |eC hb hg bL hc bA=>
    have key:∀{es:List (Value×TV)} {S0:Ft} {ev:List MapEntry},gj c ρ F h X.base kd S0 (c8 es k x) ev→∃S2 vs,b8 c ρ F h X.base S2 (ay x) vs:=by
     intro es
     induction es with
     |nil=>intro S0 ev hE;cases hE with|cons _ _ _ hv _=>exact⟨_,_,hv⟩
     |cons e es ih=>
      intro S0 ev hE;unfold c8 at hE;split at hE
      ·cases hE with|cons _ _ _ hv _=>exact⟨_,_,hv⟩
      ·cases hE with|cons _ _ _ _ hl=>exact ih hl
    obtain⟨S2,vs,hv⟩:=key hc;exact(hN.rel (zf:=zf) H K hv).2
  refine fin hq (fun m' S0 _ _ dR Kd=>?_) hU;cases Kd with
  |eC hb hg bL hc bA=>
   obtain⟨S1,q1,q2⟩:=gj.put (c':=ids.length) (ρ':=dS ids zf ρ) (V:=U.flatMap S) ha (fun S2 x h2=>(hN.rel (zf:=zf) H K h2).1) bL hc;exact⟨_,.eC (dR.trans hb) hg bL q1 bA,q2.cons _⟩
 |SP he hN=>
  rename_i z a b op EZ;obtain rfl:=he.eq;refine fin hq (fun m' S0 _ _ dR Kd=>?_) (by simp);cases Kd with
  |cm hb hg hf ht dc hz hl he bL e7 hc=>
   obtain⟨r1,r2⟩:=hN.rows bL;obtain⟨⟨S1,k1,k2⟩,_⟩:=r1.flatten.rel (zf:=zf) H K hc;refine⟨_,.cm (dR.trans hb) hg hf ht dc hz hl he bL (fun p hp=>?_) k1,k2.cons _⟩;obtain⟨x,q1,q2⟩:=r2 p hp;obtain⟨w1,w2⟩:=e7 _ q1;exact⟨w1,by rw[←q2];exact w2⟩
  |fi hb hz=>
   cases hN;exact⟨[],.fi (dR.trans hb) hz,by simp⟩
 |new hz=>
  have hi:=U8 hq;exact⟨[],.nil (by simp[dS,hi,JG,Fe]) (aF.1 hz),.inr ⟨rfl,rfl⟩,by simp⟩
 |SQ hz=>
  have hi:=U8 hq;exact⟨[],.fi (by simp[dS,hi,JG,Fe]) (aF.1 hz),.inr ⟨rfl,rfl⟩,by simp⟩
 |SR EK he hx hv=>
  rename_i z a b i j x y e e';obtain rfl:=he.eq;obtain⟨g1,g2⟩:=hx.rel H K;obtain⟨f1,f2⟩:=hx.yZ _ _ rfl;refine fin hq (fun m' S0 _ _ dR Kd=>?_) g2;cases Kd with
  |cm hb hg hf ht dc hz hl AH bL e7 hc=>
   obtain⟨o1,o2⟩:=e7 (i,x) (by simp);obtain⟨o3,o4⟩:=e7 (j,e) (by simp);have o2:x.length=z:=o2;have P1:∀r∈a.set j e,r.length=z:=fun r hr=>by
    rcases List.mem_or_eq_of_mem_set hr with q|q
    ·exact AH r q
    ·rw[q];exact o4
   have MW:∀r∈a.set i y,r.length=z:=fun r hr=>by
    rcases List.mem_or_eq_of_mem_set hr with q|q
    ·exact AH r q
    ·rw[q,←f1];exact o2
   have P2:∀r∈a.set i y,∀t∈r,kI t=true:=fun r hr=>by
    rcases List.mem_or_eq_of_mem_set hr with q|q
    ·exact bL r q
    ·rw[q];exact f2
   obtain⟨S1,S2,S3,v1,v2,v3,rfl,rfl,a1,a2,a3⟩:=fF (x:=x) P1 (by rw[List.length_set];exact o1) hc;obtain⟨S4,k1,k2⟩:=g1 _ _ a2;have hj:=jn P1 (by rw[List.length_set];exact o1) a1 (b8.o6 k1 _ _ rfl) a3;rw[List.set_comm _ _ (Ne.symm EK)]at hj;obtain⟨T1,T2,T3,w1,w2,w3,q1,q2,b1,b2,b3⟩:=fF MW (by rw[List.length_set];exact o3) hj;obtain⟨⟨T4,l1,l2⟩,_⟩:=hv.rel (zf:=zf) H K b2;have fc:=o8 P2;have AI:=jn MW (by rw[List.length_set];exact o3) (b1.conv (c':=ids.length) (ρ':=dS ids zf ρ) fun t ht=>fc t (List.mem_of_mem_take ht)) l1 (b3.conv fun t ht=>fc t (List.mem_of_mem_drop (List.mem_of_mem_drop ht)))
   rw[←q2]at AI;refine⟨_,.cm (by rw[List.length_set];exact dR.trans hb) hg hf ht dc hz (by rw[List.length_set];exact hl) MW P2 (fun p hp=>?_) AI,?_⟩
   ·simp only[List.mem_singleton]at hp;subst hp;exact⟨by rw[List.length_set];exact o3,by rw[←hv.len];exact o4⟩
   ·refine List.Perm.cons _ ?_;have p1:(T1++(T4++T3)).Perm (S1++(S4++S3)):=by
     rw[q1];exact List.Perm.append_left T1 ((by simpa using l2:T4.Perm T2).append_right T3)
    refine p1.trans ((List.Perm.append_left S1 (k2.append_right S3)).trans ?_);show List.Perm _ ((S1++(S2++S3))++U.flatMap S);simp only[List.append_assoc];exact(List.perm_append_comm.append_left _).append_left _
theorem xk:∀{l:List Nat},yS l=true→l.Nodup
 |[],_=>List.nodup_nil
 |n::l,h=>by
  simp only[yS,Bool.and_eq_true,Bool.not_eq_true',List.contains_eq_mem,decide_eq_false_iff_not]at h;exact List.nodup_cons.2 ⟨h.1,xk h.2⟩
theorem Ff {U:List Nat} (h:lH ids U=true):U.Nodup∧∀u∈U,∀k:Nat,ids[k]? ≠some (some u):=by
 simp only[lH,Bool.and_eq_true,List.all_eq_true,Bool.not_eq_true',List.contains_eq_mem,decide_eq_false_iff_not]at h;exact⟨xk h.1,fun u hu k hk=>h.2 u hu (List.mem_of_getElem? hk)⟩
theorem E2.MX (_:Mem X ρ F o c h) {S:Nat→Ft} (_:MO X ρ F o c h S) {U:List Nat} {o1:Ob} (L:E2 ids o U o1):U.Nodup→∃Un:Nat→List Nat,(∀n,∀u∈Un n,u∈U)∧(∀n,(Un n).Nodup)∧(∀n1 n2 u,u∈Un n1→u∈Un n2→n1=n2)∧∀n y,look o1 n=some y→yR ids o (Un n) (yQ ids o n) y:=by
 induction L with
 |nil=>intro _;exact⟨fun _=>[],by simp,by simp,by simp,fun n y hl=>by cases hl⟩
 |cons hT _ ih=>
  rename_i U1 U2 m y l _;intro DI;obtain⟨n1,n2,n3⟩:=List.nodup_append.1 DI;obtain⟨Un,k1,k2,k3,k4⟩:=ih n2;refine⟨fun n=>if n=m then U1 else Un n,fun n u hu=>?_,fun n=>?_,fun a b u ha hb=>?_,fun n y' hl=>?_⟩
  ·by_cases e:n=m
   ·simp only[e,if_true]at hu;exact List.mem_append_left _ hu
   ·simp only[e,if_false]at hu;exact List.mem_append_right _ (k1 n u hu)
  ·by_cases e:n=m
   ·simp only[e,if_true];exact n1
   ·simp only[e,if_false];exact k2 n
  ·by_cases ea:a=m<;>by_cases eb:b=m
   ·rw[ea,eb]
   ·simp only[ea,if_true]at ha;simp only[eb,if_false]at hb;exact absurd rfl (n3 u ha u (k1 b u hb))
   ·simp only[ea,if_false]at ha;simp only[eb,if_true]at hb;exact absurd rfl (n3 u hb u (k1 a u ha))
   ·simp only[ea,if_false]at ha;simp only[eb,if_false]at hb;exact k3 a b u ha hb
  ·rw[aD]at hl;by_cases e:m=n
   ·rw[if_pos e]at hl;cases hl;subst e;simpa using hT
   ·rw[if_neg e]at hl;have:¬n=m:=fun e'=>e e'.symm;simp only[this,if_false];exact k4 n y' hl
structure Told (X:Cx) (ρ:Gh) (F:Nat→Prop) (o:Ob) (h:ab) (S:Nat→Ft) (ids:List (Option Nat)) (U:List Nat) (o1:Ob) (S1:Nat→Ft) (Ns:Nat→List Nat):Prop where
 bR:∀n y,look o1 n=some y→OR ids.length (dS ids (DM o1) ρ) F h X.base n (S1 n) y
 perm:∀n y,look o1 n=some y→(S1 n).Perm ((Ns n).flatMap S)
 zL:∀n y,look o1 n=some y→(Ns n).Nodup
 dZ:∀n y u,look o1 n=some y→u∈Ns n→∃y,look o u=some y
 P3:∀n y u,look o1 n=some y→u∈Ns n→ids[n]? =some (some u)∨u∈U
 one:∀n1 n2 y1 y2 u,look o1 n1=some y1→look o1 n2=some y2→u∈Ns n1→u∈Ns n2→n1=n2
open Classical in
open Classical in
theorem E2.told (H:Mem X ρ F o c h) {S:Nat→Ft} (K:MO X ρ F o c h S) {U:List Nat} {o1:Ob} (L:E2 ids o U o1) (hi:gI c ids=true) (hU:lH ids U=true):∃S1 Ns,Told X ρ F o h S ids U o1 S1 Ns:=by
 obtain⟨u1,u2⟩:=Ff hU;obtain⟨Un,k1,k2,k3,k4⟩:=L.MX H K u1;have each:∀n,∃(S1:Ft) (N:List Nat),∀y,look o1 n=some y→OR ids.length (dS ids (DM o1) ρ) F h X.base n S1 y∧S1.Perm (N.flatMap S)∧N.Nodup∧(∀u∈N,∃y,look o u=some y)∧∀u∈N,ids[n]? =some (some u)∨u∈Un n:=by
  intro n;cases hl:look o1 n with
  |none=>exact⟨[],[],fun y hy=>by cases hy⟩
  |some y=>
   obtain⟨S1,h1,h2,h3⟩:=(k4 n y hl).rel (zf:=DM o1) H K rfl (by simp[DM,hl]);rcases h2 with⟨m,q1,q2,q3⟩|⟨rfl,q2⟩
   ·refine⟨S1,m::Un n,fun y' P4=>?_⟩;cases P4;refine⟨h1,q3,List.nodup_cons.2 ⟨fun hm=>u2 m (k1 n m hm) n q1,k2 n⟩,fun u hu=>?_,fun u hu=>?_⟩
    ·rcases List.mem_cons.1 hu with rfl |hu
     ·exact q2
     ·exact h3 u hu
    ·rcases List.mem_cons.1 hu with rfl |hu
     ·exact .inl q1
     ·exact .inr hu
   ·exact⟨[],[],fun y' P4=>by cases P4;exact⟨h1,by simp,by simp,by simp,by simp⟩⟩
 refine⟨fun n=>Classical.choose (each n),fun n=>Classical.choose (Classical.choose_spec (each n)),?_⟩;have sp:=fun n y (hl:look o1 n=some y)=>Classical.choose_spec (Classical.choose_spec (each n)) y hl;refine⟨fun n y hl=>(sp n y hl).1,fun n y hl=>(sp n y hl).2.1,fun n y hl=>(sp n y hl).2.2.1,fun n y u hl hu=>(sp n y hl).2.2.2.1 u hu,fun n y u hl hu=>((sp n y hl).2.2.2.2 u hu).imp id (k1 n u),fun a b y1 y2 u V9 Wa ha hb=>?_⟩;rcases(sp a y1 V9).2.2.2.2 u ha with p|p<;>rcases(sp b y2 Wa).2.2.2.2 u hb with q|q
 ·exact kR hi p q
 ·exact absurd p (u2 u (k1 b u q) a)
 ·exact absurd q (u2 u (k1 a u p) b)
 ·exact k3 a b u p q
theorem AJ {S:Nat→Ft} {N:List Nat} {x:Nat}:x∈cu (N.flatMap S)↔∃u∈N,x∈cu (S u):=by
 unfold cu;simp only[List.mem_map,List.mem_flatMap];constructor
 ·rintro⟨p,⟨u,h1,h2⟩,h3⟩;exact⟨u,h1,p,h2,h3⟩
 ·rintro⟨u,h1,p,h2,h3⟩;exact⟨p,⟨u,h1,h2⟩,h3⟩
theorem MO.uL {S:Nat→Ft} (K:MO X ρ F o c h S):∀{N:List Nat},N.Nodup→(∀u∈N,∃y,look o u=some y)→(cu (N.flatMap S)).Nodup
 |[],_,_=>by simp[cu]
 |u::N,hn,hd=>by
  obtain⟨h1,h2⟩:=List.nodup_cons.1 hn;obtain⟨y,hy⟩:=hd u List.mem_cons_self;rw[List.flatMap_cons,nG];refine List.nodup_append.2 ⟨K.zL u y hy,K.uL h2 fun v hv=>hd v (List.mem_cons_of_mem _ hv),fun a ha b hb e=>?_⟩;subst e;obtain⟨v,hv,hx⟩:=AJ.1 hb;obtain⟨y',P4⟩:=hd v (List.mem_cons_of_mem _ hv);have:=K.ey u v y y' a hy P4 ha hx;subst this;exact h1 hv
section
variable {S S1:Nat→Ft} {U:List Nat} {o1:Ob} {Ns:Nat→List Nat}
theorem Told.mem (D:Told X ρ F o h S ids U o1 S1 Ns) {n:Nat} {y:TO} (hl:look o1 n=some y) {x:Nat}:x∈cu (S1 n)↔∃u∈Ns n,x∈cu (S u):=by
 rw[←AJ];exact((D.perm n y hl).map _).mem_iff
theorem Told.P5 (D:Told X ρ F o h S ids U o1 S1 Ns) (K:MO X ρ F o c h S) {n:Nat} {y:TO} (hl:look o1 n=some y):(cu (S1 n)).Nodup:=
 ((D.perm n y hl).map _).nodup_iff.2 (K.uL (D.zL n y hl) fun u hu=>D.dZ n y u hl hu)
theorem Told.ey (D:Told X ρ F o h S ids U o1 S1 Ns) (K:MO X ρ F o c h S) {n1 n2:Nat} {y1 y2:TO} {x:Nat} (h1:look o1 n1=some y1) (h2:look o1 n2=some y2) (k1:x∈cu (S1 n1)) (k2:x∈cu (S1 n2)):n1=n2:=by
 obtain⟨u,a1,a2⟩:=(D.mem h1).1 k1;obtain⟨v,b1,b2⟩:=(D.mem h2).1 k2;obtain⟨_,c1⟩:=D.dZ _ _ _ h1 a1;obtain⟨_,c2⟩:=D.dZ _ _ _ h2 b1;have:=K.ey u v _ _ x c1 c2 a2 b2;subst this;exact D.one _ _ _ _ _ h1 h2 a1 b1
theorem Told.dF (D:Told X ρ F o h S ids U o1 S1 Ns) (K:MO X ρ F o c h S) {n:Nat} {y:TO} {x:Nat} (hl:look o1 n=some y) (k:x∈cu (S1 n)):X.base≤x∧x<h.size∧(X.M x∨X.h0.size≤x):=by
 obtain⟨u,a1,a2⟩:=(D.mem hl).1 k;obtain⟨_,c1⟩:=D.dZ _ _ _ hl a1;exact K.dF u _ x c1 a2
theorem Told.apart (D:Told X ρ F o h S ids U o1 S1 Ns) (K:MO X ρ F o c h S) {n:Nat} {y:TO} {x b:Nat} (hl:look o1 n=some y) (k:(x,true)∈S1 n) (hb:F b):hd h b≠x:=by
 have:=(D.perm n y hl).mem_iff.1 k;obtain⟨u,a1,a2⟩:=List.mem_flatMap.1 this;obtain⟨_,c1⟩:=D.dZ _ _ _ hl a1;exact K.apart u _ x b c1 a2 hb
end
theorem uM (_:∀n l,ρ n=some l→n<c) {o1:Ob} {n:Nat} {l:Loc} (h:dS ids (DM o1) ρ n=some l):n<ids.length:=by
 unfold dS at h;cases hq:ids[n]? with
 |none=>rw[hq]at h;cases h
 |some q=>exact o7 hq
theorem Mem.le (H:Mem X ρ F o c h) {U:List Nat} {o1:Ob} (hi:gI c ids=true) (hp:ow X.c0 0 ids=true) (hU:lH ids U=true) (hO:E2 ids o U o1):
 Mem X (dS ids (DM o1) ρ) F o1 ids.length h:=by
 obtain⟨S,K⟩:=H.ex;obtain⟨S1,Ns,D⟩:=hO.told H K hi hU;have pre:=xj hp;refine⟨⟨S1,D.bR,fun n y hl=>D.P5 K hl,fun n1 n2 y1 y2 x h1 h2=>D.ey K h1 h2,fun n y x hl=>D.dF K hl,fun n y x b hl=>D.apart K hl⟩,fun n l hn=>uM H.names hn,H.frozen,H.F0,H.wf,H.l9,H.jx,H.yV,?_,fun k l hk hl=>?_,fun k b hk hb=>?_⟩
 ·rcases Nat.lt_or_ge ids.length X.c0 with h1|h1
  ·have:=o7 (pre ids.length h1);omega
  ·exact h1
 ·have:=pre k hk;rw[Nat.zero_add]at this;exact H.wy.2.1 k l hk (by simpa[dS,this]using hl)
 ·have:=pre k hk;rw[Nat.zero_add]at this;simp only[dS,this];exact H.wy.2.2 k b hk hb
theorem Mem.ct (sh:List Nat):∀{F:Nat→Prop} {o:Ob},Mem X ρ F o c h→∃F',Mem X ρ F' (M.ct sh o) c h∧(∀t v,VR c ρ F h t v→VR c ρ F' h t v)∧(∀b,F b→F' b):=by
 induction sh with
 |nil=>intro F o H;exact⟨F,H,fun _ _ h=>h,fun _ h=>h⟩
 |cons m sh ih=>
  intro F o H;obtain⟨F1,H1,m1,f1,_⟩:=H.share m;obtain⟨F2,H2,m2,f2⟩:=ih H1;exact⟨F2,H2,fun t v h=>m2 t v (m1 t v h),fun b h=>f2 b (f1 b h)⟩
end
def kC (S:Nat→Ft) (o:Ob):Nat→Prop:=fun x=>∃k y,look o k=some y∧x∈cu (S k)
def y5 (base:Nat) (ρ:Gh) (F:Nat→Prop) (o:Ob) (c:Nat) (h:ab) (S:Nat→Ft):Cx:=⟨base,h,kC S o,F,c,ρ⟩
def jI (T:Env) (F:Nat→Prop) (h:ab):Prop:=∀g cs,T.vY g=some cs→F g∧h.rd g=some cs∧True
def CI (T:Env) (X:Cx):Prop:=jI T X.F0 X.h0
theorem CI.now {T:Env} {X:Cx} {ρ:Gh} {F:Nat→Prop} {o:Ob} {c:Nat} {h:ab} (N:CI T X) (H:Mem X ρ F o c h):jI T F h:=fun g cs hg=>
 let⟨n1,n2,n3⟩:=N g cs hg
 ⟨H.F0 g n1,(H.l9.cA g n1).trans n2,n3⟩
def VC (E:Env):Gq:=fun g c args o R=>
 ∀(base:Nat) (ρ:Gh) (F:Nat→Prop) (h:ab) (S:Nat→Ft) (dJ:List Value),jI E F h→Mem (y5 base ρ F o c h S) ρ F o c h→MO (y5 base ρ F o c h S) ρ F o c h S→cX c ρ F h args dJ→
  ∃n v h' ρ' F' r o' c',eI E base n g dJ h=some (v,h')∧R r o' c'∧Mem (y5 base ρ F o c h S) ρ' F' o' c' h'∧VR c' ρ' F' h' r v
theorem SU.refl (M F0:Nat→Prop) (h:ab):SU M F0 h h:=⟨Nat.le_refl _,fun _ _ _=>rfl,fun _ _=>rfl,fun _ _=>rfl⟩
section
variable {X:Cx} {ρ:Gh} {F:Nat→Prop} {o:Ob} {c:Nat} {h:ab} {ids:List (Option Nat)}
theorem Mem.hand (H:Mem X ρ F o c h) {S S1:Nat→Ft} {U:List Nat} {Ns:Nat→List Nat} (K:MO X ρ F o c h S) {o0:Ob} (D:Told X ρ F o h S ids U o0 S1 Ns):
 Mem (y5 X.base (dS ids (DM o0) ρ) F o0 ids.length h S1) (dS ids (DM o0) ρ) F o0 ids.length h∧MO (y5 X.base (dS ids (DM o0) ρ) F o0 ids.length h S1) (dS ids (DM o0) ρ) F o0 ids.length h S1:=by
 have M:MO (y5 X.base (dS ids (DM o0) ρ) F o0 ids.length h S1) (dS ids (DM o0) ρ) F o0 ids.length h S1:=
  ⟨D.bR,fun n y hl=>D.P5 K hl,fun n1 n2 y1 y2 x h1 h2=>D.ey K h1 h2,fun n y x hl hx=>⟨(D.dF K hl hx).1,(D.dF K hl hx).2.1,.inl ⟨n,y,hl,hx⟩⟩,fun n y x b hl=>D.apart K hl⟩
 exact⟨⟨⟨S1,M⟩,fun n l hn=>uM H.names hn,H.frozen,fun _ hb=>hb,H.wf,.refl _ _ _,H.jx,fun _ hb=>.inl hb,Nat.le_refl _,fun _ _ _ hl=>hl,fun _ _ _ hb=>hb⟩,M⟩
open Classical in
noncomputable def og (ids:List (Option Nat)) (c:Nat) (ρ ρ':Gh):Gh:=fun n=>
 if hx:∃k:Nat,ids[k]? =some (some n)then ρ' (Classical.choose hx)else if n<c then ρ n else if(∃m:Nat,ids[n - c]? =some (some m))then none else ρ' (n - c)
theorem CJ {ρ':Gh} (hi:gI c ids=true) {k m:Nat} (hk:ids[k]? =some (some m)):og ids c ρ ρ' m=ρ' k:=by
 unfold og;have hx:∃k:Nat,ids[k]? =some (some m):=⟨k,hk⟩;rw[dif_pos hx,kR hi (Classical.choose_spec hx) hk]
theorem tw {ρ':Gh} {n:Nat} (hn:∀k:Nat,ids[k]? ≠some (some n)) (hc:n<c):og ids c ρ ρ' n=ρ n:=by
 unfold og;rw[dif_neg (fun⟨k,hk⟩=>hn k hk),if_pos hc]
theorem Ho {ρ':Gh} (hi:gI c ids=true) (k:Nat):og ids c ρ ρ' (back ids c k)=ρ' k:=by
 unfold back;split
 ·rename_i m hm;exact CJ hi hm
 ·rename_i zH;unfold og;rw[dif_neg,if_neg om,if_neg,Nat.add_sub_cancel_left]
  ·rintro⟨m,hm⟩;rw[Nat.add_sub_cancel_left]at hm;exact zH m hm
  ·rintro⟨k',l6⟩;have:=jH hi l6;omega
theorem uN (hi:gI c ids=true) {k k':Nat} (h:back ids c k=back ids c k'):k=k':=by
 unfold back at h;split at h
 ·rename_i m hm;split at h
  ·rename_i m' MU;subst h;exact kR hi hm MU
  ·have:=jH hi hm;omega
 ·split at h
  ·rename_i m' MU;have:=jH hi MU;omega
  ·omega
theorem Ke (hi:gI c ids=true) {k c':Nat} (hk:k<c'):back ids c k<c+c':=by
 unfold back;split
 ·rename_i m hm;have:=jH hi hm;omega
 ·omega
theorem kS (β:Nat→Nat):∀(l:List TV) (i:Nat),(TV.fp β l)[i]? =(l[i]?).map (TV.kB β)
 |[],i=>by simp[TV.fp]
 |v::l,i=>by
  cases i with
  |zero=>simp[TV.fp]
  |succ i=>simp[TV.fp,kS β l i]
theorem eS (β:Nat→Nat):∀(l:List TV),(TV.fp β l).length=l.length
 |[]=>rfl
 |v::l=>by simp[TV.fp,eS β l]
theorem VR.kB {c' cc:Nat} {ρ' Gs:Gh} {F':Nat→Prop} {h':ab} {β:Nat→Nat} (y6:∀k,k<c'→β k<cc) (dR:∀k,Gs (β k)=ρ' k) {t:TV} {x:Value} (H:VR c' ρ' F' h' t x):VR cc Gs F' h' (t.kB β) x:=by
 induction H with
 |j v=>exact .j v
 |s hp=>exact .s hp
 |nil he=>exact .nil he
 |sl h1 h2 h3 h4 h5 h6 h7 h8 h9 hc _=>exact .sl h1 h2 h3 h4 h5 h6 h7 h8 h9 fun i j e t v q1 q2 q3=>(hc i j e t v q1 q2 q3).c6 (h9 e (List.mem_of_getElem? q1) t (List.mem_of_getElem? q2))
 |tk hn nJ ha h0=>exact .tk (y6 _ hn) nJ (fun b z len hx=>ha b z len (by rw[←dR];exact hx)) (fun z hx=>h0 z (by rw[←dR];exact hx))
 |ptr hb=>exact .ptr (by rw[dR];exact hb)
 |ep h1 h2 h3 h4 hc _=>exact .ep h1 h2 h3 h4 fun j t v q1 q2=>(hc j t v q1 q2).c6 (h4 t (List.mem_of_getElem? q1))
 |wp hn nJ ha h0=>exact .wp (y6 _ hn) nJ (fun b z len hx=>ha b z len (by rw[←dR];exact hx)) (fun z hx=>h0 z (by rw[←dR];exact hx))
 |mp hb=>exact .mp (by rw[dR];exact hb)
 |bg hb=>exact .bg (by rw[dR];exact hb)
 |sv hn nJ ha h0=>exact .sv (y6 _ hn) nJ (fun b z len hx=>ha b z len (by rw[←dR];exact hx)) (fun z hx=>h0 z (by rw[←dR];exact hx))
 |pv hn nJ ha h0=>exact .pv (y6 _ hn) nJ (fun b z len hx=>ha b z len (by rw[←dR];exact hx)) (fun z hx=>h0 z (by rw[←dR];exact hx))
 |agg hs _ ih=>
  refine .agg (by rw[eS];exact hs) fun i t v q1 q2=>?_;rw[kS,Option.map_eq_some_iff]at q1;obtain⟨t0,q3,rfl⟩:=q1;exact ih i t0 v q3 q2
 |dH hs _ ih=>
  refine .dH (by rw[eS];exact hs) fun i t v q1 q2=>?_;rw[kS,Option.map_eq_some_iff]at q1;obtain⟨t0,q3,rfl⟩:=q1;exact ih i t0 v q3 q2
 |k9 _ ih=>exact .k9 ih
 |de hs _ ht _ yf yg=>
  refine .de (by rw[eS];exact hs) (fun i t v q1 q2=>?_) (by rw[eS];exact ht) (fun i t v q1 q2=>?_)
  ·rw[kS,Option.map_eq_some_iff]at q1;obtain⟨t0,q3,rfl⟩:=q1;exact yf i t0 v q3 q2
  ·rw[kS,Option.map_eq_some_iff]at q1;obtain⟨t0,q3,rfl⟩:=q1;exact yg i t0 v q3 q2
theorem cX.kB {c' cc:Nat} {ρ' Gs:Gh} {F':Nat→Prop} {h':ab} {β:Nat→Nat} (y6:∀k,k<c'→β k<cc) (dR:∀k,Gs (β k)=ρ' k) {l:List TV} {m:List Value} (H:cX c' ρ' F' h' l m):cX cc Gs F' h' (TV.fp β l) m:=by
 refine⟨by rw[eS];exact H.1,fun i t v q1 q2=>?_⟩;rw[kS,Option.map_eq_some_iff]at q1;obtain⟨t0,q3,rfl⟩:=q1;exact(H.2 i t0 v q3 q2).kB y6 dR
theorem Hr (β:Nat→Nat) {t:TV} (hf:fz t=true):t.kB β=t:=by
 unfold fz at hf;split at hf<;>first|rfl |(simp[TV.kB];done)|(simp[TV.kB,TV.fp];done)|cases hf
theorem Hs (β:Nat→Nat) {t:TV} (hf:kI t=true):t.kB β=t:=by
 unfold kI at hf;split at hf
 ·simp[TV.kB]
 ·exact Hr β hf
theorem uO (β:Nat→Nat):∀{l:List TV},(∀t∈l,kI t=true)→TV.fp β l=l
 |[],_=>rfl
 |t::l,h=>by simp only[TV.fp];rw[Hs β (h t List.mem_cons_self),uO β fun t ht=>h t (List.mem_cons_of_mem _ ht)]
theorem AK (β:Nat→Nat) (a b:List TV):TV.fp β (a++b)=TV.fp β a++TV.fp β b:=by
 induction a with
 |nil=>rfl
 |cons t l ih=>simp[TV.fp,ih]
theorem y7 (β:Nat→Nat) (l:List (List TV)):TV.fp β l.flatten=(l.map (TV.fp β)).flatten:=by
 induction l with
 |nil=>rfl
 |cons t l ih=>simp[AK,ih]
theorem AL (β:Nat→Nat) {es:List (List TV)} (bL:∀e∈es,∀t∈e,kI t=true):∀op,bZ es (uF β op)=(bZ es op).map (TV.fp β)
 |[]=>by
  show es=es.map (TV.fp β);refine List.ext_getElem? fun i=>?_;rw[List.getElem?_map];cases he:es[i]? with
  |none=>rfl
  |some e=>simp[uO β (bL e (List.mem_of_getElem? he))]
 |p::l=>by
  show(bZ es (uF β l)).set p.1 (TV.fp β p.2)=((bZ es l).set p.1 p.2).map (TV.fp β);rw[AL β bL l,List.map_set]
theorem AM (f:TV→TV) (k:Value) (v:TV):∀es:List (Value×TV),(c8 es k v).map (fun e=>(e.1,f e.2))=c8 (es.map fun e=>(e.1,f e.2)) k (f v)
 |[]=>rfl
 |e::es=>by
  simp only[c8,List.map_cons];cases ov k e.1 with
  |true=>rfl
  |false=>simp[AM f k v es]
theorem xl (β:Nat→Nat) (v:TV):ay (v.kB β)=TV.fp β (ay v)∧cF (v.kB β)=cF v:=by
 cases v<;>simp[TV.kB,ay,cF,TV.fp]
theorem Kf (β:Nat→Nat) {v:TV} (h:∀t∈ay v,kI t=true):v.kB β=v:=by
 cases v with
 |agg cs=>
  have e:TV.fp β cs=cs:=uO β h;simp only[TV.kB,e]
 |_=>exact Hs β (h _ (by simp[ay]))
theorem DO (β:Nat→Nat) {es:List (Value×TV)} (bL:∀e∈es,∀t∈ay e.2,kI t=true):∀op,Hg es (DE β op)=(Hg es op).map fun e=>(e.1,e.2.kB β)
 |[]=>by
  show es=es.map fun e=>(e.1,e.2.kB β);refine List.ext_getElem? fun i=>?_;rw[List.getElem?_map];cases he:es[i]? with
  |none=>rfl
  |some e=>simp[Kf β (bL e (List.mem_of_getElem? he))]
 |p::l=>by
  show c8 (Hg es (DE β l)) p.1 (p.2.kB β)=(c8 (Hg es l) p.1 p.2).map fun e=>(e.1,e.2.kB β);rw[DO β bL l,AM]
section
variable {c' cc:Nat} {ρ' Gs:Gh} {F':Nat→Prop} {h':ab} {β:Nat→Nat} {base:Nat} {S:Ft}
theorem b8.kB (y6:∀k,k<c'→β k<cc) (dR:∀k,Gs (β k)=ρ' k) {l:List TV} {m:List Value} (H:b8 c' ρ' F' h' base S l m):b8 cc Gs F' h' base S (TV.fp β l) m:=by
 induction H with
 |nil=>exact .nil
 |vr hv _ ih=>exact .vr (hv.kB y6 dR) ih
 |cl hv _ ih=>
  rename_i t v l m _;have:t.kB β=t:=by
   cases hv with
   |fz hf _=>exact Hr β hf
   |own=>simp[TV.kB]
  simp only[TV.fp];rw[this];exact .cl hv ih
theorem gj.kB (y6:∀k,k<c'→β k<cc) (dR:∀k,Gs (β k)=ρ' k) {kd:Nat} {l:List (Value×TV)} {m:List MapEntry} (H:gj c' ρ' F' h' base kd S l m):gj cc Gs F' h' base kd S (l.map fun e=>(e.1,e.2.kB β)) m:=by
 induction H with
 |nil=>exact .nil
 |cons hk hH ha hv _ ih=>
  exact .cons hk hH ((xl β _).2.trans ha) (by rw[(xl β _).1];exact hv.kB y6 dR) ih
theorem OR.kB {k:Nat} (y6:∀k,k<c'→β k<cc) (dR:∀k,Gs (β k)=ρ' k) {y:TO} (H:OR c' ρ' F' h' base k S y):OR cc Gs F' h' base (β k) S (y.kB β):=by
 cases H with
 |cells hb hg ht hc=>exact .cells ((dR k).trans hb) hg ht (hc.kB y6 dR)
 |map hb hg hl hc bA=>exact .map ((dR k).trans hb) hg hl (fun i e e' q1 q2=>let⟨r1,r2,r3,r4⟩:=hc i e e' q1 q2;⟨r1,r2,r3,r4.tu r3⟩) bA
 |nil hb hz=>exact .nil ((dR k).trans hb) hz
 |arr hb hg hf ht dc hz hlen he fy hc hF=>exact .arr ((dR k).trans hb) hg hf ht dc hz hlen he fy (fun i j e t v q1 q2 q3=>(hc i j e t v q1 q2 q3).c6 (fy e (List.mem_of_getElem? q1) t (List.mem_of_getElem? q2))) hF
 |fi hb hz=>exact .fi ((dR k).trans hb) hz
 |cm hb hg hf ht dc hz hlen he bL e7 hc=>
  refine .cm ((dR k).trans hb) hg hf ht dc hz hlen he bL (fun p hp=>?_) (by rw[AL β bL,←y7];exact hc.kB y6 dR);have key:∀op:List (Nat×List TV),p∈uF β op→∃q∈op,p.1=q.1∧p.2.length=q.2.length:=by
   intro op
   induction op with
   |nil=>intro h;simp[uF]at h
   |cons q l ih=>
    intro h;simp only[uF,List.mem_cons]at h;rcases h with rfl |h
    ·exact⟨q,List.mem_cons_self,rfl,eS β _⟩
    ·obtain⟨q',h1,h2⟩:=ih h;exact⟨q',List.mem_cons_of_mem _ h1,h2⟩
  obtain⟨q,h1,h2,h3⟩:=key _ hp;rw[h2,h3];exact e7 q h1
 |eC hb hg bL hc bA=>exact .eC ((dR k).trans hb) hg bL (by rw[DO β bL];exact hc.kB y6 dR) bA
 |gK hb hg=>exact .gK ((dR k).trans hb) hg
end
theorem qV {β:Nat→Nat} (y6:∀k k',β k=β k'→k=k'):∀{o:Ob} {n:Nat} {y:TO},look (CD β o) n=some y→∃k y0,n=β k∧look o k=some y0∧y=y0.kB β
 |[],n,y,h=>by cases h
 |p::l,n,y,h=>by
  simp only[CD]at h;rw[aD]at h;split at h
  ·rename_i e;cases h;exact⟨p.1,p.2,e.symm,by rw[aD,if_pos rfl],rfl⟩
  ·rename_i e;obtain⟨k,y0,rfl,h2,h3⟩:=qV y6 h;refine⟨k,y0,rfl,?_,h3⟩;rw[aD,if_neg (fun e2=>e (by rw[e2]))];exact h2
theorem lJ:∀{ids:List (Option Nat)} {o:Ob} {n:Nat} {y:TO},look (jg ids o) n=some y→look o n=some y∧∀k:Nat,ids[k]? ≠some (some n)
 |[],o,n,y,h=>⟨h,fun k=>by simp⟩
 |none::l,o,n,y,h=>by
  obtain⟨h1,h2⟩:=lJ (ids:=l) h;refine⟨h1,fun k=>?_⟩;cases k with
  |zero=>simp
  |succ k=>simpa using h2 k
 |some m::l,o,n,y,h=>by
  obtain⟨h1,h2⟩:=lJ (ids:=l) h;rw[cS]at h1;by_cases e:n=m
  ·rw[if_pos e]at h1;cases h1
  ·rw[if_neg e]at h1;refine⟨h1,fun k=>?_⟩;cases k with
   |zero=>simp;exact fun e2=>e e2.symm
   |succ k=>simpa using h2 k
theorem uP:∀{U:List Nat} {o:Ob} {n:Nat} {y:TO},look (sg U o) n=some y→look o n=some y∧n∉U
 |[],o,n,y,h=>⟨h,by simp⟩
 |m::l,o,n,y,h=>by
  obtain⟨h1,h2⟩:=uP (U:=l) h;rw[cS]at h1;by_cases e:n=m
  ·rw[if_pos e]at h1;cases h1
  ·rw[if_neg e]at h1;exact⟨h1,by simp[e,h2]⟩
open Classical in
theorem Mem.merge (H:Mem X ρ F o c h) {S S1:Nat→Ft} {U:List Nat} {Ns:Nat→List Nat} (K0:MO X ρ F o c h S) {o0:Ob} (hi:gI c ids=true) (D:Told X ρ F o h S ids U o0 S1 Ns) {ρ':Gh} {F':Nat→Prop} {o':Ob} {c':Nat} {h':ab}
 (K:Mem (y5 X.base (dS ids (DM o0) ρ) F o0 ids.length h S1) ρ' F' o' c' h'):
 Mem X (og ids c ρ ρ') F' (CD (back ids c) o'++sg U (jg ids o)) (c+c') h'∧(∀t v,VR c ρ F h t v→VR (c+c') (og ids c ρ ρ') F' h' t v)∧(∀t v,VR c' ρ' F' h' t v→VR (c+c') (og ids c ρ ρ') F' h' (t.kB (back ids c)) v)∧
  ∀n y,look o n=some y→(∀k:Nat,ids[k]? ≠some (some n))→n∉U→∀x∈cu (S n),¬kC S1 o0 x:=by
 obtain⟨S',KO⟩:=K.ex;have hA:∀n l,n<c→og ids c ρ ρ' n=some l→ρ n=some l:=fun n l hn hl=>by
  by_cases hx:∃k:Nat,ids[k]? =some (some n)
  ·obtain⟨k,hk⟩:=hx;rw[CJ hi hk]at hl;have:=K.wy.2.1 k l (o7 hk) hl;simpa[y5,dS,hk]using this
  ·rwa [tw (fun k hk=>hx ⟨k,hk⟩) hn]at hl
 have hB:∀n b,ρ n=some (.cO b)→og ids c ρ ρ' n=some (.cO b):=fun n b hb=>by
  by_cases hx:∃k:Nat,ids[k]? =some (some n)
  ·obtain⟨k,hk⟩:=hx;rw[CJ hi hk];exact K.wy.2.2 k b (o7 hk) (by simpa[y5,dS,hk]using hb)
  ·rw[tw (fun k hk=>hx ⟨k,hk⟩) (H.names _ _ hb)];exact hb
 have y6:=fun k (hk:k<c')=>Ke hi hk;have dR:=fun k=>Ho (ρ:=ρ) (ρ':=ρ') hi k;have cA:∀b cs,F b→h.rd b=some cs→h'.rd b=some cs:=fun b cs hb hr=>by rw[K.l9.cA b hb];exact hr
 have oy:∀b,F b→F' b:=fun b hb=>K.F0 b hb;have hm:∀t v,VR c ρ F h t v→VR (c+c') (og ids c ρ ρ') F' h' t v:=fun t v=>VR.mono om hA hB oy cA;have cI:h.size≤h'.size:=K.l9.size
 -- families that the call may have changed
 have hM:∀x,kC S1 o0 x→∃(u:Nat) (y:TO),((∃k:Nat,ids[k]? =some (some u))∨u∈U)∧look o u=some y∧x∈cu (S u):=by
  rintro x ⟨k,y,hl,hh⟩;obtain⟨u,h1,h2⟩:=(D.mem hl).1 hh;obtain⟨y',h3⟩:=D.dZ _ _ _ hl h1;exact⟨u,y',(D.P3 _ _ _ hl h1).imp (fun h=>⟨_,h⟩) id,h3,h2⟩
 have S6:∀x,kC S1 o0 x→X.M x∨X.h0.size≤x:=fun x hx=>by
  obtain⟨u,y,_,h2,h3⟩:=hM x hx;exact(K0.dF u y x h2 h3).2.2
 have same:∀b,b<h.size→¬kC S1 o0 (hd h b)→h'.get b=h.get b:=fun b hb hx=>K.l9.bf b hb hx;have out:∀n y,look o n=some y→(∀k:Nat,ids[k]? ≠some (some n))→n∉U→∀x∈cu (S n),¬kC S1 o0 x:=by
  intro n y hl h1 h2 x hx hy;obtain⟨u,y',q1,q2,q3⟩:=hM x hy;have:=K0.ey n u y y' x hl q2 hx q3;subst this;rcases q1 with⟨k,q1⟩|q1
  ·exact h1 k q1
  ·exact h2 q1
 let S2:Nat→Ft:=fun n=>if hx:∃k y0,n=back ids c k∧look o' k=some y0 then S' (Classical.choose hx)else S n
 have Wb:∀k y0,look o' k=some y0→S2 (back ids c k)=S' k:=fun k y0 hl=>by
  have hx:∃k' y0,back ids c k=back ids c k'∧look o' k'=some y0:=⟨k,y0,rfl,hl⟩;simp only[S2];rw[dif_pos hx];obtain⟨_,h1,_⟩:=Classical.choose_spec hx;rw[uN hi h1.symm]
 have jQ:∀n y,look (CD (back ids c) o'++sg U (jg ids o)) n=some y→
  (∃k y0,n=back ids c k∧look o' k=some y0∧y=y0.kB (back ids c)∧S2 n=S' k)∨
  (look o n=some y∧(∀k:Nat,ids[k]? ≠some (some n))∧n∉U∧S2 n=S n):=by
  intro n y hl;rw[iB]at hl;split at hl
  ·rename_i y1 h1;cases hl;obtain⟨k,y0,rfl,h2,rfl⟩:=qV (fun k k'=>uN hi) h1;exact .inl ⟨k,y0,rfl,h2,rfl,Wb k y0 h2⟩
  ·rename_i zH;obtain⟨h1,h2⟩:=uP hl;obtain⟨h3,h4⟩:=lJ h1;refine .inr ⟨h3,h4,h2,?_⟩;simp only[S2];rw[dif_neg];rintro⟨k,y0,rfl,hk⟩;have BX:=H.lt h3;unfold back at h4 BX;split at BX
   ·rename_i m hm;rw[hm]at h4;exact h4 k hm
   ·omega
 have old:∀n y,look o n=some y→(∀k:Nat,ids[k]? ≠some (some n))→n∉U→OR (c+c') (og ids c ρ ρ') F' h' X.base n (S n) y:=fun n y hl h1 h2=>
  (K0.bR n y hl).bf (T:=kC S1 o0) H.wf same (out n y hl h1 h2) oy cA hm (tw h1 (H.lt hl))
 -- a family of the call's is none of the others
 have apart:∀k y0 x,look o' k=some y0→x∈cu (S' k)→kC S1 o0 x∨h.size≤x:=fun k y0 x hl hh=>(KO.dF k y0 x hl hh).2.2;refine⟨⟨⟨S2,fun n y hl=>?_,fun n y hl=>?_,fun n1 n2 y1 y2 x h1 h2 k1 k2=>?_,fun n y x hl hh=>?_,fun n y x b hl hs hb=>?_⟩,fun n l hn=>?_,fun b hb=>K.frozen b hb,fun b hb=>oy b (H.F0 b hb),K.wf,⟨Nat.le_trans H.l9.size cI,fun b hb U9=>?_,fun b hb=>?_,fun b hb=>?_⟩,Nat.le_trans H.jx cI,fun b hb=>?_,?_,fun k l hk hl=>?_,fun k b hk hb=>?_⟩,hm,fun t v=>VR.kB y6 dR,out⟩
 ·rcases jQ n y hl with⟨k,y0,rfl,h1,rfl,h2⟩|⟨h1,h2,h3,h4⟩
  ·rw[h2];exact(KO.bR k y0 h1).kB y6 dR
  ·rw[h4];exact old n y h1 h2 h3
 ·rcases jQ n y hl with⟨k,y0,rfl,h1,rfl,h2⟩|⟨h1,h2,h3,h4⟩
  ·rw[h2];exact KO.zL k y0 h1
  ·rw[h4];exact K0.zL n y h1
 ·rcases jQ n1 y1 h1 with⟨k,z1,rfl,a1,_,e1⟩|⟨a1,f1,g1,e1⟩<;>rcases jQ n2 y2 h2 with⟨k',z2,rfl,a2,_,e2⟩|⟨a2,f2,g2,e2⟩
  ·rw[e1]at k1;rw[e2]at k2;rw[KO.ey k k' z1 z2 x a1 a2 k1 k2]
  ·rw[e1]at k1;rw[e2]at k2;rcases apart _ _ _ a1 k1 with h3|h3
   ·exact absurd h3 (out _ _ a2 f2 g2 x k2)
   ·have:=(K0.dF _ _ _ a2 k2).2.1;omega
  ·rw[e1]at k1;rw[e2]at k2;rcases apart _ _ _ a2 k2 with h3|h3
   ·exact absurd h3 (out _ _ a1 f1 g1 x k1)
   ·have:=(K0.dF _ _ _ a1 k1).2.1;omega
  ·rw[e1]at k1;rw[e2]at k2;exact K0.ey _ _ _ _ x a1 a2 k1 k2
 ·rcases jQ n y hl with⟨k,z1,rfl,a1,_,e1⟩|⟨a1,_,_,e1⟩
  ·rw[e1]at hh;obtain⟨q1,q2,q3⟩:=KO.dF _ _ _ a1 hh;refine⟨q1,q2,?_⟩;rcases q3 with q3|q3
   ·exact S6 x q3
   ·exact .inr (Nat.le_trans H.l9.size q3)
  ·rw[e1]at hh;obtain⟨q1,q2,q3⟩:=K0.dF _ _ _ a1 hh;exact⟨q1,Nat.lt_of_lt_of_le q2 cI,q3⟩
 ·rcases jQ n y hl with⟨k,z1,rfl,a1,e0,e1⟩|⟨a1,f1,g1,e1⟩
  ·rw[e1]at hs;exact KO.apart k z1 x b a1 hs hb
  ·rw[e1]at hs;have Dw:=(K0.dF _ _ _ a1 (df hs)).2.1;intro e;rcases K.yV b hb with h3|h3|h3
   ·have zM:F b:=h3;rw[K.l9.cu b (H.CE zM)]at e;exact K0.apart _ _ _ b a1 hs zM e
   ·rw[e]at h3;exact out _ _ a1 f1 g1 x (df hs) h3
   ·rw[e]at h3;have:h.size≤x:=h3;omega
 ·by_cases hx:∃k:Nat,ids[k]? =some (some n)
  ·obtain⟨k,hk⟩:=hx;have:=jH hi hk;omega
  ·rcases Nat.lt_or_ge n c with h1|h1
   ·omega
   ·have Wc:¬∃m:Nat,ids[n - c]? =some (some m):=fun⟨m,hm⟩=>by
     simp only[og]at hn;rw[dif_neg hx,if_neg om,if_pos ⟨m,hm⟩]at hn;cases hn
    simp only[og]at hn;rw[dif_neg hx,if_neg om,if_neg Wc]at hn;have:=K.names _ _ hn;omega
 ·have h1:=H.l9.bf b hb U9;have h2:=H.l9.cu b hb;rw[same b (Nat.lt_of_lt_of_le hb H.l9.size) ?_,h1];intro hx;rw[h2]at hx;rcases S6 _ hx with k|k
  ·exact U9 k
  ·have:=H.wf.DG b;rw[h2]at this;omega
 ·have:=H.F0 b hb;exact(K.l9.cA b this).trans (H.l9.cA b hb)
 ·exact(K.l9.cu b (Nat.lt_of_lt_of_le hb H.l9.size)).trans (H.l9.cu b hb)
 ·rcases K.yV b hb with h3|h3|h3
  ·have zM:F b:=h3;rw[K.l9.cu b (H.CE zM)];exact H.yV b zM
  ·exact .inr (S6 _ h3)
  ·exact .inr (.inr (Nat.le_trans H.l9.size h3))
 ·have:=H.wy.1;omega
 ·exact H.wy.2.1 k l hk (hA k l (Nat.lt_of_lt_of_le hk H.wy.1) hl)
 ·exact hB k b (H.wy.2.2 k b hk hb)
end
end Go.M
namespace Go.M
open Go
def AN (run run':wj):Prop:=∀c f h r,run c f h=some r→run' c f h=some r
def uQ (cf JH:dn):Prop:=∀g a h r,cf g a h=some r→JH g a h=some r
def tz (rf JI:cP):Prop:=∀l a h r,rf l a h=some r→JI l a h=some r
section
variable {E:Env} {base:Nat}
theorem nK {run run':wj} (H:AN run run'):uQ (ff E base run) (ff E base run'):=by
 intro g a h r hr;unfold ff at hr ⊢;simp only[Option.bind_eq_some_iff]at hr ⊢;obtain⟨fn,h1,h2⟩:=hr;refine⟨fn,h1,?_⟩;split at h2
 ·rename_i q hq;simpa[hq]using h2
 ·rename_i hq;simp only[Option.bind_eq_some_iff,ae]at h2 ⊢;obtain⟨c,h3,h4,h5⟩:=h2;refine⟨c,h3,h4,?_⟩;split at h5
  ·rename_i f' h' hx;rw[H _ _ _ _ hx];exact h5
  ·rename_i f' h' hx;rw[H _ _ _ _ hx];exact h5
  ·cases h5
theorem uR {run run':wj} (H:AN run run'):tz (fw base run) (fw base run'):=by
 intro l a h r hr;unfold fw at hr ⊢;rw[ae]at hr ⊢;refine⟨hr.1,?_⟩;obtain⟨_,hr⟩:=hr;split at hr
 ·rename_i p f ps c7 body hg;rw[ae]at hr ⊢;refine⟨hr.1,?_⟩;obtain⟨_,hr⟩:=hr;split at hr
  ·rename_i f1 h1 hx;rw[H _ _ _ _ hx];simp only
   split at hr
   ·rename_i p1 f0 td jc eH iY;simp only[Option.bind_eq_some_iff]at hr ⊢;obtain⟨q,h2,h3⟩:=hr;exact⟨q,H _ _ _ _ h2,h3⟩
   ·cases hr
  ·cases hr
 ·cases hr
theorem AO {cf JH:dn} {rf JI:cP} (H:uQ cf JH) (G:tz rf JI) {o:Oper} {f:AF} {h:ab} {r:GB} (hr:cV E base cf rf o f h=some r):cV E base JH JI o f h=some r:=by
 unfold cV at hr ⊢;cases hv:aB E f o with
 |some v=>rw[hv]at hr;exact hr
 |none=>
  rw[hv]at hr;simp only at hr ⊢;cases hq:ba E f o with
  |some q=>rw[hq]at hr;exact hr
  |none=>
   rw[hq]at hr;simp only at hr ⊢;cases hm:aP E f o with
   |some m=>rw[hm]at hr;exact hr
   |none=>
    rw[hm]at hr;simp only at hr ⊢;cases he:bT E base f o h with
    |none=>rw[he]at hr;cases hr
    |some p=>
     rw[he]at hr;obtain⟨x,h'⟩:=p;cases x with
     |val v=>exact hr
     |enter g args=>
      simp only[Option.bind_eq_some_iff]at hr ⊢;obtain⟨q,h1,h2⟩:=hr;exact⟨q,H _ _ _ _ h1,h2⟩
     |round l args=>
      simp only[Option.bind_eq_some_iff]at hr ⊢;obtain⟨q,h1,h2⟩:=hr;exact⟨q,G _ _ _ _ h1,h2⟩
theorem y8 {cf JH:dn} {rf JI:cP} (H:uQ cf JH) (G:tz rf JI) {ops:List Oper}:∀{rest:List Oper} {f:AF} {h:ab} {r:AF×ab},sP E base cf rf ops rest f h=some r→sP E base JH JI ops rest f h=some r
 |[],f,h,r,hr=>hr
 |o::rest,f,h,r,hr=>by
  unfold sP at hr ⊢;split at hr
  ·simp only[Option.bind_eq_some_iff]at hr ⊢;obtain⟨q,h1,h2⟩:=hr;exact⟨q,AO H G h1,y8 H G h2⟩
  ·exact y8 H G hr
theorem uS {cf JH:dn} {rf JI:cP} (H:uQ cf JH) (G:tz rf JI) {ops:List Oper}:∀{rest:List Oper} {f:AF} {h:ab} {r:AF×ab×List cg},fY E base cf rf ops rest f h=some r→fY E base JH JI ops rest f h=some r
 |[],f,h,r,hr=>hr
 |o::rest,f,h,r,hr=>by
  unfold fY at hr ⊢;split at hr
  ·simp only[Option.bind_eq_some_iff]at hr ⊢;obtain⟨q,h1,q2,h2,h3⟩:=hr;exact⟨q,AO H G h1,q2,uS H G h2,h3⟩
  ·simp only[Option.bind_eq_some_iff]at hr ⊢;obtain⟨q2,h2,h3⟩:=hr;exact⟨q2,uS H G h2,h3⟩
theorem CL {run run':wj} (H:AN run run') {ops:Array Oper} {draw:Bool} {f:AF} {h:ab} {r:Ex×AF×ab} (hr:jY E base run ops draw f h=some r):jY E base run' ops draw f h=some r:=by
 unfold jY at hr ⊢;split at hr
 ·simp only[Option.bind_eq_some_iff]at hr ⊢;obtain⟨q,h1,h2⟩:=hr;exact⟨q,y8 (nK H) (uR H) h1,h2⟩
 ·simp only[Option.bind_eq_some_iff,ae]at hr ⊢;obtain⟨h0,q,h1,h2⟩:=hr;exact⟨h0,q,uS (nK H) (uR H) h1,h2⟩
theorem AP:∀{n m:Nat},n≤m→AN (aT E base n) (aT E base m)
 |0,m,_=>fun c f h r hr=>by simp[aT]at hr
 |n+1,0,h=>by omega
 |n+1,m+1,OV=>by
  have ih:AN (aT E base n) (aT E base m):=AP om;intro c f h r hr;unfold aT at hr ⊢;cases c with
  |skip=>exact hr
  |region id ops draw=>exact CL ih hr
  |seq a b=>
   simp only at hr ⊢;cases hx:aT E base n a f h with
   |none=>rw[hx]at hr;cases hr
   |some q=>
    rw[hx]at hr;rw[ih _ _ _ _ hx];obtain⟨ex,f',h'⟩:=q;cases ex with
    |normal=>exact ih _ _ _ _ hr
    |exit id=>exact hr
    |ret=>exact hr
  |cond c t e=>
   simp only[Option.bind_eq_some_iff]at hr ⊢;obtain⟨v,h1,b,h2,h3⟩:=hr;refine⟨v,h1,b,h2,?_⟩;cases b<;>exact ih _ _ _ _ h3
  |block id b=>
   simp only at hr ⊢;cases hx:aT E base n b f h with
   |none=>rw[hx]at hr;cases hr
   |some q=>rw[hx]at hr;rw[ih _ _ _ _ hx];exact hr
  |loop b=>
   simp only at hr ⊢;cases hx:aT E base n b f h with
   |none=>rw[hx]at hr;cases hr
   |some q=>
    rw[hx]at hr;rw[ih _ _ _ _ hx];obtain⟨ex,f',h'⟩:=q;cases ex with
    |normal=>exact ih _ _ _ _ hr
    |exit id=>exact hr
    |ret=>exact hr
  |exit id=>exact hr
  |ret=>exact hr
  |rangeFunc g ps c7 body=>
   simp only[Option.bind_eq_some_iff,ae]at hr ⊢;obtain⟨g',h1,h2,h3⟩:=hr;refine⟨g',h1,h2,?_⟩;split at h3
   ·simp only[Option.bind_eq_some_iff]at h3 ⊢;obtain⟨q,h4,h5⟩:=h3;refine⟨q,nK ih _ _ _ _ h4,?_⟩;split at h5
    ·rw[ae]at h5 ⊢;refine⟨h5.1,?_⟩;obtain⟨_,h5⟩:=h5;split at h5
     ·exact h5
     ·exact ih _ _ _ _ h5
    ·cases h5
   ·cases h3
  |_=>exact hr
theorem uT {n m:Nat} (h:n≤m):uQ (eI E base n) (eI E base m):=nK (AP h)
end
end Go.M
end
