/-
  Part 6 of the library that the proof leans on.
-/
import Derived.Test.YtjeejiegdkojdaaGreatDoorL5
namespace Go.M
open Go
section
variable {X:Cx} {ρ ρ':Gh} {F:Nat→Prop} {o o':Ob} {c c':Nat} {h h':ab}
theorem ext_get {f aQ t0 eX:Nat} {c0 cs:List Value} (hf:h.get f=some (.cells c0 f t0 eX)) (b:Nat):(dQ h f aQ cs).get b=if b=h.size then some (.cells cs f 0 0)else if b=f then some (.cells c0 f h.size aQ)else h.get b:=by
 unfold dQ;rw[ab.aq,bw,br,hf]
theorem sM {f aQ:Nat} {cs:List Value}:(dQ h f aQ cs).size=h.size+1:=by unfold dQ;rw[ab.size_push,bw]
theorem N7 (W:Wf h) {f aQ t0 eX:Nat} {c0 cs:List Value} (hf:h.get f=some (.cells c0 f t0 eX)):Wf (dQ h f aQ cs):=by
 have ud:=W.lt hf;refine⟨fun b hb=>?_,fun b cs' f' t th hg=>?_⟩
 ·rw[sM]at hb;rw[ext_get hf,if_neg om,if_neg om];exact W.high b om
 ·rw[ext_get hf]at hg;split at hg
  ·cases hg;omega
  ·split at hg
   ·cases hg;omega
   ·exact W.le _ _ _ _ _ hg
theorem Wg {f aQ t0 eX:Nat} {c0 cs:List Value} (hf:h.get f=some (.cells c0 f t0 eX)) {b:Nat} (hb:b<h.size):hd (dQ h f aQ cs) b=hd h b:=by
 unfold hd;rw[ext_get hf,if_neg om];by_cases e:b=f
 ·subst e;rw[if_pos rfl,hf]
 ·rw[if_neg e]
theorem N8 (W:Wf h) {f t0 aQ:Nat} {c0 cs:List Value} (hf:h.get f=some (.cells c0 f t0 aQ)) {b:Nat} {l:List Value} (hr:h.rd b=some l):(dQ h f aQ cs).rd b=some l:=by
 obtain⟨r,h1,h2,h3⟩:=rd_some hr;obtain⟨f1,t1,wW,hg⟩:=dJ h3;obtain⟨cr,jX⟩:=bO h1;obtain⟨ua,q1,q2,mI⟩:=dP h1;rw[hg]at mI;cases mI;have hb:=W.lt hg;have ud:=W.lt jX;have o8:∃t th,(dQ h f aQ cs).get b=some (.cells l r.1 t th):=by
  rw[ext_get hf,if_neg om];by_cases e:b=f
  ·rw[if_pos e];subst e;rw[hg]at hf;cases hf;exact⟨_,_,rfl⟩
  ·rw[if_neg e,hg];exact⟨_,_,rfl⟩
 obtain⟨t,th,o8⟩:=o8;by_cases e:r.1=f
 ·have zt:(dQ h f aQ cs).get r.1=some (.cells cr r.1 h.size r.2.2):=by
   have hf2:=hf;rw[←e,jX]at hf2;simp only[Option.some.injEq,fi.cells.injEq]at hf2;rw[ext_get hf,if_neg om,if_pos e,hf2.1,hf2.2.2.2,e]
  exact dD (bM o8 zt) h2 (aB o8)
 ·have zt:(dQ h f aQ cs).get r.1=some (.cells cr r.1 r.2.1 r.2.2):=by rw[ext_get hf,if_neg om,if_neg e,jX]
  exact dD (bM o8 zt) h2 (aB o8)
theorem dU {S:Ft} {x:Nat} {w:Bool} (h:(x,w)∈S):x∈dk S:=List.mem_map.2 ⟨_,h,rfl⟩
theorem jB {f:Nat} (W:Wf h) (same:∀x,x<h.size→hd h x≠f→h'.get x=h.get x) {b:Nat} {cs:List Value} (bc:hd h b≠f) (hr:h.rd b=some cs):h'.rd b=some cs:=by
 obtain⟨r,h1,h2,h3⟩:=rd_some hr;obtain⟨f1,t1,wW,hg⟩:=dJ h3;obtain⟨cr,jX⟩:=bO h1;obtain⟨ua,q1,q2,mI⟩:=dP h1;rw[hg]at mI;cases mI;rw[bZ hg]at bc;have a1:=same b (W.lt hg) (by rw[bZ hg];exact bc);have a2:=same r.1 (W.lt jX) (by rw[bZ jX];exact bc);exact dD (bM (a1.trans hg) (a2.trans jX)) h2 (aB (a1.trans hg))
theorem Mem.Ux (H:Mem X ρ F o c h) {S:Nat→Ft} (K:MO X ρ F o c h S) {m z l len':Nat} {w:Bool} (c9:Nat) {y y':TO} {Sq:Ft} (hl:look o m=some y) {b f t0 eX aQ:Nat} {cs cs':List Value} (hS:S m=(f,w)::Sq) (hb:ρ m=some (.arr b z l)) (hg:h.get b=some (.cells cs f t0 eX))
 (hf:h.dr b=some (f,b,aQ)) (_:aQ≤b) (Gg:c9≤h.size) (hw9:c9=aQ∨w=true):
 let h':=dQ h f c9 cs'
 let ρ':=ct (ct ρ m none) c (some (.arr h.size z len'))
 let F':=fun x=>F x∨(w=false∧x=h.size)
 (vp:(∀t v,VR c ρ F h t v→VR (c+1) ρ' F' h' t v)→(∀b,b<h.size→¬(hd h b=f)→h'.get b=h.get b)→(∀b cs,F b→h.rd b=some cs→h'.rd b=some cs)→h'.get h.size=some (.cells cs' f 0 0)→h'.dr h.size=some (f,h.size,c9)→OR (c+1) ρ' F' h' X.base c ((f,w)::Sq) y')→
 Mem X ρ' F' ((c,y')::fy o m) (c+1) h'∧∀t v,VR c ρ F h t v→VR (c+1) ρ' F' h' t v:=by
 intro h' ρ' F' vp;have hm:=H.lt hl;obtain⟨c0,bQ⟩:=bO hf;simp only at bQ;have ud:=H.wf.lt bQ;have zw:f∈dk (S m):=by rw[hS];exact List.mem_cons_self
 have qL:=K.eT m _ f hl zw;have I9:=K.Cm m _ hl;have fp:∀n,n≠m→n≠c→ρ' n=ρ n:=fun n h1 h2=>by simp only[ρ'];rw[bj _ _ h2,bj _ _ h1]
 have hA:∀n l,n<c→ρ' n=some l→ρ n=some l:=fun n l hn h1=>by
  by_cases e:n=m
  ·subst e;simp only[ρ']at h1;rw[bj _ _ om,aI]at h1;cases h1
  ·rwa [fp n e om]at h1
 have hB:∀n b,ρ n=some (.dw b)→ρ' n=some (.dw b):=fun n b' hn=>by
  have:=H.names _ _ hn;by_cases e:n=m
  ·subst e;rw[hb]at hn;cases hn
  ·rwa [fp n e om]
 have qK:∀b,F b→F' b:=fun b hb=>.inl hb;have ZP:∀b,b<h.size→hd h b≠f→h'.get b=h.get b:=fun b' bX hx=>by
  simp only[h'];rw[ext_get bQ,if_neg om,if_neg];intro e;subst e;exact hx (bZ bQ)
 have cZ:∀b cs,F b→h.rd b=some cs→h'.rd b=some cs:=fun b cs hb hr=>by
  rcases hw9 with e|e
  ·simp only[h'];rw[e];exact N8 H.wf bQ hr
  ·exact jB H.wf ZP (K.apart m _ f b hl (by rw[hS,e];exact List.mem_cons_self) hb) hr
 have Ee:∀t v,VR c ρ F h t v→VR (c+1) ρ' F' h' t v:=fun t v=>VR.mono om hA hB qK cZ;have sy:h'.get h.size=some (.cells cs' f 0 0):=by simp only[h'];rw[ext_get bQ,if_pos rfl]
 have Wh:h'.get f=some (.cells c0 f h.size c9):=by simp only[h'];rw[ext_get bQ,if_neg om,if_pos rfl]
 have II:=H.wf.lt hg;have ac6:(h'.rd h.size)=some cs':=dD (bM sy Wh) (by simp only;omega) (aB sy);have same:∀b,b<h.size→¬(hd h b=f)→h'.get b=h.get b:=fun b' bX hx=>by
  simp only[h'];rw[ext_get bQ,if_neg om,if_neg];intro e;subst e;exact hx (bZ bQ)
 have vq:∀n y1,n≠c→look ((c,y')::fy o m) n=some y1→n≠m∧look o n=some y1:=fun n y1 bc hy=>by
  rw[aN,if_neg (fun e=>bc e.symm),dz]at hy;by_cases e:n=m
  ·rw[if_pos e]at hy;cases hy
  ·rw[if_neg e]at hy;exact⟨e,hy⟩
 refine H.change K (fun x=>x=f) c y' ((f,w)::Sq) (by simp only[h'];rw[sM];omega) (N7 H.wf bQ) (fun x hx=>by subst hx;exact qL.2.2)
  same cZ (fun b' bX=>Wg bQ bX) qK (fun b' bX hn=>?_) om hA hB (fun n l hn=>?_) (fun n y1 bc hy=>?_) (fun y1 hy=>?_) (vp Ee same cZ sy (bM sy Wh)) (by rw[←hS];exact I9) (fun x hx=>?_) fun x b' hx bX=>?_
 ·rcases bX with bX|⟨hw,rfl⟩
  ·exact absurd bX hn
  ·refine⟨by rw[ac6];rfl,fun n y1 x bc hy hx e=>?_,fun x hx e=>?_,by rw[bZ sy];exact qL.2.2⟩
   ·rw[bZ sy]at e;subst e;obtain⟨h1,h2⟩:=vq n y1 bc hy;exact h1 (K.fg n m y1 _ _ h2 hl (dU hx) zw)
   ·rw[bZ sy]at e;subst e;rw[hS]at I9;simp only[dk,List.map_cons,List.nodup_cons]at I9;rcases List.mem_cons.1 hx with e|hx
    ·simp only[Prod.mk.injEq]at e;rw[hw]at e;exact absurd e.2 (by simp)
    ·exact I9.1 (List.mem_map.2 ⟨_,hx,rfl⟩)
 ·by_cases e:n=c
  ·omega
  ·by_cases e2:n=m
   ·omega
   ·rw[fp n e2 e]at hn;have:=H.names _ _ hn;omega
 ·obtain⟨h1,h2⟩:=vq n y1 bc hy;refine⟨h2,fp n h1 bc,fun x hx e=>?_⟩;subst e;exact h1 (K.fg n m y1 _ x h2 hl hx zw)
 ·rw[aN,if_pos rfl,Option.some.injEq]at hy;exact hy.symm
 ·rw[←hS]at hx;obtain⟨q1,q2,q3⟩:=K.eT m _ x hl hx;refine⟨q1,by simp only[h'];rw[sM];omega,q3,fun n y1 bc hy hh=>?_⟩;obtain⟨h1,h2⟩:=vq n y1 bc hy;exact h1 (K.fg n m y1 _ x h2 hl hh hx)
 ·rw[←hS]at hx;exact K.apart m _ x b' hl hx bX
theorem Ru {b f t0 eX t1 wW:Nat} {c0 c1:List Value} (hg:h.get b=some (.cells c0 f t0 eX)) (hf:h.get f=some (.cells c1 f t1 wW)) (cs':List Value) (x:Nat):
 ((h.setCells b cs').bB f b b).get x=if x=f then some (.cells (if f=b then cs' else c1) f b b)else if x=b then some (.cells cs' f t0 eX)else h.get x:=by
 rw[br,bC,bC,hg];by_cases e:f=b
 ·subst e;simp
 ·simp[e,hf]
theorem Ef (b f:Nat) (cs':List Value):((h.setCells b cs').bB f b b).size=h.size:=by rw[bw,cz]
theorem Ja {base b f aQ t0 eX:Nat} {c0 cs':List Value} (_:h.get b=some (.cells c0 f t0 eX)) (hf:h.dr b=some (f,b,aQ)) (h1:base≤b) (h2:base≤f):
 h.wr base b cs'=some ((h.setCells b cs').bB f b b):=by
 unfold ab.wr;rw[hf];simp[bF,aG.2 h1,aG.2 h2]
structure ac7 (h:ab) (b f:Nat) (cs':List Value) (h':ab):Prop where
 size:h'.size=h.size
 wf:Wf h'
 self:∃t th,h'.get b=some (.cells cs' f t th)
 dr:h'.dr b=some (f,b,b)
 same:∀x,x<h.size→hd h x≠f→h'.get x=h.get x
 dk:∀x,hd h' x=hd h x
theorem Cq (W:Wf h) {b f aQ t0 eX:Nat} {c0 cs':List Value} (hg:h.get b=some (.cells c0 f t0 eX)) (hf:h.dr b=some (f,b,aQ)):ac7 h b f cs' ((h.setCells b cs').bB f b b):=by
 obtain⟨cr,bQ⟩:=bO hf;simp only at bQ;have hb:=W.lt hg;have ud:=W.lt bQ;have hle:=W.le _ _ _ _ _ hg;have get:=fun x=>Ru hg bQ cs' x;have Wh:((h.setCells b cs').bB f b b).get f=some (.cells (if f=b then cs' else cr) f b b):=by
  rw[get,if_pos rfl]
 have o8:∃t th,((h.setCells b cs').bB f b b).get b=some (.cells cs' f t th):=by
  by_cases e:b=f
  ·subst e;exact⟨b,b,by rw[Wh,if_pos rfl]⟩
  ·rw[get,if_neg e,if_pos rfl];exact⟨_,_,rfl⟩
 obtain⟨t,th,o8⟩:=o8;have Cr:∀x,x≠f→x≠b→((h.setCells b cs').bB f b b).get x=h.get x:=fun x h1 h2=>by rw[get,if_neg h1,if_neg h2]
 refine⟨Ef _ _ _,⟨fun x hx=>?_,fun x ua f1 t1 wW hx=>?_⟩,⟨t,th,o8⟩,bM o8 Wh,fun x hx bc=>?_,fun x=>?_⟩
 ·rw[Ef]at hx;rw[Cr x om om];exact W.high x hx
 ·by_cases e1:x=f
  ·subst e1;rw[Wh]at hx;cases hx;exact Nat.le_refl _
  ·by_cases e2:x=b
   ·subst e2;rw[o8]at hx;cases hx;exact hle
   ·rw[Cr x e1 e2]at hx;exact W.le _ _ _ _ _ hx
 ·refine Cr x (fun e=>?_) (fun e=>?_)
  ·subst e;exact bc (bZ bQ)
  ·subst e;exact bc (bZ hg)
 ·by_cases e1:x=f
  ·subst e1;rw[bZ Wh,bZ bQ]
  ·by_cases e2:x=b
   ·subst e2;rw[bZ o8,bZ hg]
   ·unfold hd;rw[Cr x e1 e2]
theorem Mem.set (H:Mem X ρ F o c h) {S:Nat→Ft} (K:MO X ρ F o c h S) {m:Nat} {y y':TO} {S0:Ft} (hl:look o m=some y) {f:Nat} (hf:(f,true)∈S m) (iO:∀p∈S0,p∈S m) (oQ:(dk S0).Nodup) (fL:h'.size=h.size) (IG:Wf h')
 (same:∀x,x<h.size→hd h x≠f→h'.get x=h.get x) (Wi:∀x,hd h' x=hd h x)
 (vp:(∀t v,VR c ρ F h t v→VR c ρ F h' t v)→(∀b cs,F b→h.rd b=some cs→h'.rd b=some cs)→OR c ρ F h' X.base m S0 y'):
 Mem X ρ F (eY o m y') c h'∧∀t v,VR c ρ F h t v→VR c ρ F h' t v:=by
 have qL:=K.eT m y f hl (dU hf);have cZ:∀b cs,F b→h.rd b=some cs→h'.rd b=some cs:=fun b cs hb hr=>jB H.wf same (K.apart m y f b hl hf hb) hr;have Ee:∀t v,VR c ρ F h t v→VR c ρ F h' t v:=fun t v=>VR.mono (Nat.le_refl _) (fun _ _ _ hx=>hx) (fun _ _ hx=>hx) (fun _ hb=>hb) cZ;have IL:∀x∈dk S0,x∈dk (S m):=fun x hx=>by
  obtain⟨p,hp,rfl⟩:=List.mem_map.1 hx;exact List.mem_map.2 ⟨p,iO p hp,rfl⟩
 have QW:∀n y1,n≠m→look (eY o m y') n=some y1→look o n=some y1:=fun n y1 bc hy=>by rwa [eg,if_neg bc]at hy
 refine H.change K (fun x=>x=f) m y' S0 om IG (fun x hx=>by subst hx;exact qL.2.2) (fun b hb hx=>same b hb hx) cZ (fun b _=>Wi b) (fun _ hb=>hb) (fun _ hb hn=>absurd hb hn) (Nat.le_refl _) (fun _ _ _ hx=>hx) (fun _ _ hx=>hx) H.names
  (fun n y1 bc hy=>?_) (fun y1 hy=>?_) (vp Ee cZ) oQ (fun x hx=>?_) fun x b hx hb=>K.apart m y x b hl (iO _ hx) hb
 ·refine⟨QW n y1 bc hy,rfl,fun x hx e=>?_⟩;subst e;exact bc (K.fg n m y1 y x (QW n y1 bc hy) hl hx (dU hf))
 ·rw[eg,if_pos rfl,hl]at hy;simp at hy;exact hy.symm
 ·obtain⟨q1,q2,q3⟩:=K.eT m y x hl (IL x hx);exact⟨q1,om,q3,fun n y1 bc hy hh=>bc (K.fg n m y1 y x (QW n y1 bc hy) hl hh (IL x hx))⟩
def oI (ρ:Gh) (c:Nat) (ls:List Loc):Gh:=fun n=>if n<c then ρ n else ls[n - c]?
theorem fA (ρ:Gh) {c n:Nat} (ls:List Loc) (h:n<c):oI ρ c ls n=ρ n:=if_pos h
theorem sN (ρ:Gh) (c i:Nat) (ls:List Loc):oI ρ c ls (c+i)=ls[i]? :=by unfold oI;rw[if_neg om];congr 1;omega
theorem uo {base:Nat} {Ss:List Ft} {new:List (Nat×TO)} {ls:List Loc}:∀{k:Nat},Ea F h base k Ss new ls→∀n,look new n=if n<k then none else(new[n - k]?).map (·.2):=by
 intro k N;have key:∀(new:List (Nat×TO)) (k:Nat),(∀(i:Nat) p,new[i]? =some p→p.1=k+i)→∀n,look new n=if n<k then none else(new[n - k]?).map (·.2):=by
  intro new
  induction new with
  |nil=>intro k _ n;simp[look]
  |cons p l ih=>
   intro k hk n;have h0:=hk 0 p rfl;rw[aN];have ih':=ih (k+1) (fun i q hq=>by have:=hk (i+1) q (by simpa using hq);omega) n;by_cases e:p.1=n
   ·rw[if_pos e,if_neg om];have:n - k=0:=by omega
    rw[this];rfl
   ·rw[if_neg e,ih'];by_cases e1:n<k
    ·rw[if_pos om,if_pos e1]
    ·rw[if_neg om,if_neg e1];have:n - k=(n - (k+1))+1:=by omega
     rw[this,List.getElem?_cons_succ]
 exact key new k fun i p hp=>(N.nth i p hp).1
theorem Mem.opens (H:Mem X ρ F o c h) {S:Nat→Ft} (K:MO X ρ F o c h S) {m0:Nat} {y0 y1:TO} {S0:Ft} {Ss:List Ft} {new:List (Nat×TO)} {ls:List Loc} (hl:look o m0=some y0) (N:Ea F h X.base c Ss new ls) (hp:(S m0).Perm (S0++Ss.flatten))
 (vp:(∀t v,VR c ρ F h t v→VR (c+new.length) (oI ρ c ls) F h t v)→OR (c+new.length) (oI ρ c ls) F h X.base m0 S0 y1):
 Mem X (oI ρ c ls) F (new++eY o m0 y1) (c+new.length) h∧∀t v,VR c ρ F h t v→VR (c+new.length) (oI ρ c ls) F h t v:=by
 have hA:∀n l,n<c→oI ρ c ls n=some l→ρ n=some l:=fun n l hn h1=>by rwa [fA _ _ hn]at h1
 have hB:∀n b,ρ n=some (.dw b)→oI ρ c ls n=some (.dw b):=fun n b h1=>by rw[fA _ _ (H.names _ _ h1)];exact h1
 have hm:∀t v,VR c ρ F h t v→VR (c+new.length) (oI ρ c ls) F h t v:=fun t v=>VR.mono om hA hB (fun _ h=>h) (fun _ _ _ h=>h);have Gz:=H.lt hl
 let S':Nat→Ft:=fun n=>if n<c then(if n=m0 then S0 else S n)else(Ss[n - c]?).getD []
 have s0:S' m0=S0:=(if_pos Gz).trans (if_pos rfl);have s1:∀n,n<c→n≠m0→S' n=S n:=fun n h1 h2=>(if_pos h1).trans (if_neg h2);have s2:∀i:Nat,S' (c+i)=(Ss[i]?).getD []:=fun i=>(if_neg om).trans (by rw[Nat.add_sub_cancel_left]);have Uy:(dk (S m0)).Perm (dk S0++dk Ss.flatten):=by rw[←p4];exact hp.map _
 have oQ:(dk S0++dk Ss.flatten).Nodup:=Uy.nodup_iff.1 (K.Cm m0 _ hl);have inS:∀(i:Nat) Q,Ss[i]? =some Q→∀p∈Q,p∈S m0:=fun i Q hQ p hpQ=>hp.mem_iff.2 (List.mem_append_right _ (List.mem_flatten.2 ⟨Q,List.mem_of_getElem? hQ,hpQ⟩))
 -- where an object comes from
 have lr:∀n y,look (new++eY o m0 y1) n=some y→(n=m0∧y=y1)∨(n<c∧n≠m0∧look o n=some y)∨∃(i:Nat) (Q:Ft) (l:Loc),n=c+i∧Ss[i]? =some Q∧ls[i]? =some l∧CR F h X.base Q (.o y l):=by
  intro n y hn;rw[jL,uo N]at hn;by_cases hc:n<c
  ·rw[if_pos hc]at hn;simp only at hn;rw[eg]at hn;by_cases e:n=m0
   ·rw[if_pos e,hl]at hn;simp at hn;exact .inl ⟨e,hn.symm⟩
   ·rw[if_neg e]at hn;exact .inr (.inl ⟨hc,e,hn⟩)
  ·rw[if_neg hc]at hn;cases hq:new[n - c]? with
   |none=>
    rw[hq]at hn;simp only[Option.map_none]at hn;rw[eg,if_neg om]at hn;exact absurd (H.lt hn) hc
   |some p=>
    rw[hq]at hn;simp only[Option.map_some,Option.some.injEq]at hn;subst hn;obtain⟨_,Q,l,h1,h2,h3⟩:=N.nth _ _ hq;exact .inr (.inr ⟨n - c,Q,l,om,h1,h2,h3⟩)
 have Uz:∀n y,look (new++eY o m0 y1) n=some y→∀p∈S' n,(n<c∧n≠m0∧p∈S n∧look o n=some y)∨p∈S m0:=by
  intro n y hn p QX;rcases lr n y hn with⟨rfl,_⟩|⟨h1,h2,h3⟩|⟨i,Q,l,rfl,h1,_,_⟩
  ·rw[s0]at QX;exact .inr (hp.mem_iff.2 (List.mem_append_left _ QX))
  ·rw[s1 n h1 h2]at QX;exact .inl ⟨h1,h2,QX,h3⟩
  ·rw[s2,h1]at QX;exact .inr (inS i Q h1 p QX)
 refine⟨⟨⟨S',fun n y hn=>?_,fun n y hn=>?_,fun n1 n2 z1 z2 x h1 h2 k1 k2=>?_,fun n y x hn hx=>?_,fun n y x b hn hx hb=>?_⟩,fun n l hn=>?_,H.frozen,H.F0,H.wf,H.oH,H.l5,H.Co,?_,fun k l hk hl=>?_,fun k b hk hb=>?_⟩,hm⟩
 ·rcases lr n y hn with⟨rfl,rfl⟩|⟨h1,h2,h3⟩|⟨i,Q,l,rfl,h1,h2,h3⟩
  ·rw[s0];exact vp hm
  ·rw[s1 n h1 h2];exact(K.b7 n y h3).bl (T:=fun _=>False) H.wf (fun _ _ _=>rfl) (fun _ _ hf=>hf.elim) (fun _ h=>h) (fun _ _ _ h=>h) hm (fA _ _ h1)
  ·rw[s2,h1];exact OR.rM h3 (by rw[sN];exact h2)
 ·rcases lr n y hn with⟨rfl,rfl⟩|⟨h1,h2,h3⟩|⟨i,Q,l,rfl,h1,h2,h3⟩
  ·rw[s0];exact(List.nodup_append.1 oQ).1
  ·rw[s1 n h1 h2];exact K.Cm n y h3
  ·rw[s2,h1];have:(Q.map (·.1)).Sublist (dk Ss.flatten):=(List.sublist_flatten_of_mem (List.mem_of_getElem? h1)).map _;exact this.nodup (List.nodup_append.1 oQ).2.1
 ·have idx:∀(i j:Nat) (Q R:Ft) (x:Nat),Ss[i]? =some Q→Ss[j]? =some R→x∈dk Q→x∈dk R→i=j:=by
   have ud:(Ss.map dk).flatten.Nodup:=by
    have:=(List.nodup_append.1 oQ).2.1;unfold dk at this;rw[List.map_flatten]at this;exact this
   intro i j Q R x hi hj hxi hxj;have pw:=List.pairwise_iff_getElem.1 (List.pairwise_flatten.1 ud).2;have key:∀(i j:Nat) (Q R:Ft),Ss[i]? =some Q→Ss[j]? =some R→x∈dk Q→x∈dk R→i<j→False:=fun i j Q R hi hj hxi hxj bH=>by
    have li:=(List.getElem?_eq_some_iff.1 hi);have lj:=(List.getElem?_eq_some_iff.1 hj);refine pw i j (by simpa using li.1) (by simpa using lj.1) bH x ?_ x ?_ rfl
    ·rw[List.getElem_map,li.2];exact hxi
    ·rw[List.getElem_map,lj.2];exact hxj
   rcases Nat.lt_trichotomy i j with bH|heq|bH
   ·exact(key i j Q R hi hj hxi hxj bH).elim
   ·exact heq
   ·exact(key j i R Q hj hi hxj hxi bH).elim
  have dis:∀x,x∈dk S0→∀(i:Nat) (Q:Ft),Ss[i]? =some Q→x∈dk Q→False:=fun x h1 i Q h2 h3=>by
   refine(List.nodup_append.1 oQ).2.2 x h1 x ?_ rfl;obtain⟨p,ZQ,rfl⟩:=List.mem_map.1 h3;exact List.mem_map.2 ⟨p,List.mem_flatten.2 ⟨Q,List.mem_of_getElem? h2,ZQ⟩,rfl⟩
  have inm:∀(x i:Nat) (Q:Ft),Ss[i]? =some Q→x∈dk Q→x∈dk (S m0):=fun x i Q h1 h2=>by
   obtain⟨p,ZQ,rfl⟩:=List.mem_map.1 h2;exact List.mem_map.2 ⟨p,inS i Q h1 p ZQ,rfl⟩
  have in0:∀x,x∈dk S0→x∈dk (S m0):=fun x hx=>Uy.mem_iff.2 (List.mem_append_left _ hx);rcases lr n1 z1 h1 with⟨rfl,_⟩|⟨a1,a2,a3⟩|⟨i,Q,l,rfl,a1,_,_⟩<;>rcases lr n2 z2 h2 with⟨rfl,_⟩|⟨b1,b2,b3⟩|⟨j,R,l',rfl,b1,_,_⟩
  ·rfl
  ·rw[s0]at k1;rw[s1 _ b1 b2]at k2;exact absurd (K.fg _ _ _ _ x hl b3 (in0 x k1) k2).symm b2
  ·rw[s0]at k1;rw[s2,b1]at k2;exact(dis x k1 j R b1 k2).elim
  ·rw[s1 _ a1 a2]at k1;rw[s0]at k2;exact absurd (K.fg _ _ _ _ x a3 hl k1 (in0 x k2)) a2
  ·rw[s1 _ a1 a2]at k1;rw[s1 _ b1 b2]at k2;exact K.fg _ _ _ _ x a3 b3 k1 k2
  ·rw[s1 _ a1 a2]at k1;rw[s2,b1]at k2;exact absurd (K.fg _ _ _ _ x a3 hl k1 (inm x j R b1 k2)) a2
  ·rw[s2,a1]at k1;rw[s0]at k2;exact(dis x k2 i Q a1 k1).elim
  ·rw[s2,a1]at k1;rw[s1 _ b1 b2]at k2;exact absurd (K.fg _ _ _ _ x hl b3 (inm x i Q a1 k1) k2).symm b2
  ·rw[s2,a1]at k1;rw[s2,b1]at k2;rw[idx i j Q R x a1 b1 k1 k2]
 ·obtain⟨p,ZQ,rfl⟩:=List.mem_map.1 hx;rcases Uz n y hn p ZQ with⟨_,_,h3,h4⟩|h3
  ·exact K.eT n y _ h4 (dU h3)
  ·exact K.eT m0 _ _ hl (dU h3)
 ·rcases Uz n y hn _ hx with⟨_,_,h3,h4⟩|h3
  ·exact K.apart n y x b h4 h3 hb
  ·exact K.apart m0 _ x b hl h3 hb
 ·by_cases hc:n<c
  ·omega
  ·unfold oI at hn;rw[if_neg hc]at hn;have:=(List.getElem?_eq_some_iff.1 hn).1;have:=N.l2;omega
 ·have:=H.zJ.1;omega
 ·exact H.zJ.2.1 k l hk (hA k l (Nat.lt_of_lt_of_le hk H.zJ.1) hl)
 ·exact hB k b (H.zJ.2.2 k b hk hb)
theorem Mem.share (H:Mem X ρ F o c h) (m:Nat):∃F',Mem X ρ F' (jh o m) c h∧(∀t v,VR c ρ F h t v→VR c ρ F' h t v)∧(∀b,F b→F' b)∧
 ∀z w es v,look o m=some (.arr z w es)→VR c ρ F h (.tk m) v→VR c ρ F' h (.sl z es false) v:=by
 unfold jh;split
 ·rename_i z w es hl;obtain⟨S,K⟩:=H.ex;have hO:=K.b7 m _ hl;have QW:∀n y,n≠m→look (eY o m (.arr z false es)) n=some y→look o n=some y:=fun n y bc hy=>by rwa [eg,if_neg bc]at hy
  have ZR:∀y',look (eY o m (.arr z false es)) m=some y'→y'= .arr z false es:=fun y' hy=>by rw[eg,if_pos rfl,hl]at hy;simp at hy;exact hy.symm
  cases hS:S m with
  |nil=>
   rw[hS]at hO;cases hO with
   |nil hb hz=>
    obtain⟨M,hm⟩:=H.change K (F':=F) (ρ':=ρ) (c':=c) (h':=h) (o':=eY o m (.arr z false [])) (fun _=>False) m (.arr z false []) [] (Nat.le_refl _) H.wf (fun _ hf=>hf.elim) (fun _ _ _=>rfl) (fun _ _ _ h=>h) (fun _ _=>rfl) (fun _ h=>h) (fun _ h hn=>absurd h hn) (Nat.le_refl _) (fun _ _ _ h=>h) (fun _ _ h=>h) H.names
     (fun n y bc hy=>⟨QW n y bc hy,rfl,fun _ _ hf=>hf.elim⟩) ZR (.nil hb hz) (by simp[dk]) (by simp[dk]) (by simp)
    refine⟨F,M,hm,fun _ h=>h,fun z' w' bS v rN hv=>?_⟩;rw[hl]at rN;cases rN;cases hv with
    |tk hn p5 ha h0=>
     rcases h0 _ hb with rfl |⟨b,o',cs,q1,q2,q3,q4,rfl⟩
     ·exact .nil rfl
     ·exact .sl q1 q2 q3 rfl (Nat.le_refl _) (fun h=>by cases h) (by simpa using q4) (by simp) (by simp) fun i j e t v h1=>by simp at h1
  |cons p Sq=>
   have YG:=fun x hx=>K.eT m _ x hl hx;have xn:∀(n:Nat) (y:TO) (x:Nat),n≠m→look o n=some y→x∈dk (S n)→x∈dk (S m)→False:=fun n y x bc hn hx YF=>bc (K.fg n m y _ x hn hl hx YF);rw[hS]at hO YG xn;cases hO with
   |arr hb hg hf ht dx hz hlen he gK hc hF=>
    rename_i b f t0 eX aQ cs;have fP:h.rd b=some cs:=dD hf ht (aB hg);have QY:∀t v,VR c ρ F h t v→VR c ρ (fun x=>F x∨x=b) h t v:=fun t v=>VR.mono (Nat.le_refl _) (fun _ _ _ h=>h) (fun _ _ h=>h) (fun _ h=>.inl h) (fun _ _ _ h=>h);have MM:Mem X ρ (fun x=>F x∨x=b) (eY o m (.arr z false es)) c h∧∀t v,VR c ρ F h t v→VR c ρ (fun x=>F x∨x=b) h t v:=by
     refine H.change K (F':=fun x=>F x∨x=b) (ρ':=ρ) (c':=c) (h':=h) (o':=eY o m (.arr z false es)) (fun _=>False) m (.arr z false es) [(f,false)] (Nat.le_refl _) H.wf (fun _ hf=>hf.elim) (fun _ _ _=>rfl) (fun _ _ _ h=>h) (fun _ _=>rfl) (fun _ h=>.inl h)
      (fun b' bX hn=>?_) (Nat.le_refl _) (fun _ _ _ h=>h) (fun _ _ h=>h) H.names
      (fun n y bc hy=>⟨QW n y bc hy,rfl,fun _ _ hf=>hf.elim⟩) ZR (.arr hb hg hf ht dx hz hlen he gK (fun i j e t v q1 q2 q3=>QY _ _ (hc i j e t v q1 q2 q3)) fun _=>.inr rfl) (by simp[dk]) (fun x hx=>?_) (fun x b' hx=>by simp at hx)
     ·rcases bX with bX|rfl
      ·exact absurd bX hn
      ·refine⟨by rw[fP];rfl,fun n y x bc hy hx e=>?_,by simp,?_⟩
       ·rw[bZ hg]at e;subst e;exact xn n y _ bc (QW n y bc hy) (dU hx) List.mem_cons_self
       ·rw[bZ hg];exact(YG _ List.mem_cons_self).2.2
     ·simp only[dk,List.map_cons,List.map_nil,List.mem_singleton]at hx;subst hx;obtain⟨q1,q2,q3⟩:=YG _ List.mem_cons_self;exact⟨q1,q2,q3,fun n y bc hy hh=>xn n y _ bc (QW n y bc hy) hh List.mem_cons_self⟩
    obtain⟨M,hm⟩:=MM;refine⟨_,M,hm,fun _ h=>.inl h,fun z' w' bS v rN hv=>?_⟩;rw[hl]at rN;cases rN;cases hv with
    |tk hn p5 ha h0=>
     obtain⟨cap,h1,rfl⟩:=ha _ _ _ hb;exact .sl (.inr rfl) fP hz rfl h1 (fun h=>by cases h) (by rw[Nat.zero_add];omega) he gK fun i j e t v q1 q2 q3=>hm _ _ (hc i j e t v q1 q2 (by simpa using q3))
 ·rename_i vh;exact⟨F,H,fun _ _ h=>h,fun _ h=>h,fun z w es v hl=>absurd hl (vh z w es)⟩
end
def fq (ids:List (Option Nat)) (zf:Nat→Nat) (ρ:Gh):Gh:=fun n=>match ids[n]? with
 |some (some m)=>ρ m
 |some none=>some (.nil (zf n))
 |none=>none
section
variable {X:Cx} {ρ:Gh} {F:Nat→Prop} {o:Ob} {c:Nat} {h:ab} {ids:List (Option Nat)} {zf:Nat→Nat}
theorem rO {n:Nat} {x:Option Nat} (h:ids[n]? =some x):n<ids.length:=(List.getElem?_eq_some_iff.1 h).1
def TxR (c:Nat) (ρ:Gh) (F:Nat→Prop) (h:ab) (c':Nat) (ρ':Gh):Tx→Tx→Prop
 | .v a,.v b=>∀x,VR c ρ F h a x→VR c' ρ' F h b x
 | .l a,.l b=>∀m,dI c ρ F h a m→dI c' ρ' F h b m
 |_,_=>True
theorem oP.rel (H:Mem X ρ F o c h) {a b:Tx} (L:oP ids o a b):TxR c ρ F h ids.length (fq ids zf ρ) a b:=by
 induction L with
 |s hv=>intro x hx;obtain rfl:=hv.eq;cases hx with|s hp=>exact .s hp
 |sl hz hf he=>
  intro x hx;obtain rfl:=he.eq;simp only[Bool.or_eq_true,beq_iff,Bool.not_eq_true']at hz hf;cases hx with
  |nil he=>exact .nil he
  |sl h1 h2 h3 h4 h5 h6 h7 h8 h9 hc=>
   rcases hz with rfl |rfl
   ·refine .sl h1 h2 h3 h4 h5 (fun h=>h6 ?_) h7 h8 h9 fun i j e t v q1 q2 q3=>(hc i j e t v q1 q2 q3).dN (h9 e (List.mem_of_getElem? q1) t (List.mem_of_getElem? q2));rcases hf with hf|hf
    ·rw[hf]at h;cases h
    ·exact hf
   ·omega
 |new hi=>
  intro x hx;cases hx with
  |nil he=>exact .tk (rO hi) rfl (fun b z len hx=>by simp[fq,hi]at hx) (fun z hx=>.inl rfl)
  |sl h1 h2 h3=>omega
 |tk hi=>
  intro x hx;cases hx with
  |tk hn p5 ha h0=>exact .tk (rO hi) p5 (fun b z len hx=>ha b z len (by simpa[fq,hi]using hx)) (fun z hx=>h0 z (by simpa[fq,hi]using hx))
 |pv hi he=>
  intro x hx;obtain rfl:=he.eq;cases hx with
  |pv hn p5 ha h0=>exact .pv (rO hi) p5 (fun b z len hx=>ha b z len (by simpa[fq,hi]using hx)) (fun z hx=>h0 z (by simpa[fq,hi]using hx))
 |look hl he=>
  intro x hx;obtain rfl:=he.eq;obtain⟨S,K⟩:=H.ex;cases hx with
  |tk hn p5 ha h0=>
   have hO:=K.b7 _ _ hl;generalize S _=Sm at hO;cases hO with
   |nil hb hz=>
    rcases h0 _ hb with rfl |⟨b,o',cs,q1,q2,q3,q4,rfl⟩
    ·exact .nil rfl
    ·exact .sl q1 q2 q3 rfl (Nat.le_refl _) (fun h=>by cases h) (by simpa using q4) (by simp) (by simp) fun i j e t v h1=>by simp at h1
   |arr hb hg hf ht dx hz hlen he gK hc hF=>
    obtain⟨cap,h1,rfl⟩:=ha _ _ _ hb
    exact .sl (hF rfl) (dD hf ht (aB hg)) hz rfl h1 (fun h=>by cases h) (by rw[Nat.zero_add];omega) he gK
     fun i j e t v q1 q2 q3=>(hc i j e t v q1 q2 (by simpa using q3)).dN (gK e (List.mem_of_getElem? q1) t (List.mem_of_getElem? q2))
 |ptr hi=>intro x hx;cases hx with|ptr hb=>exact .ptr (by simpa[fq,hi]using hb)
 |ep he=>
  intro x hx;obtain rfl:=he.eq;cases hx with
  |ep h1 h2 h3 h4 hc=>exact .ep h1 h2 h3 h4 fun j t v q1 q2=>(hc j t v q1 q2).dN (h4 t (List.mem_of_getElem? q1))
 |mp hi=>intro x hx;cases hx with|mp hb=>exact .mp (by simpa[fq,hi]using hb)
 |bg hi he=>intro x hx;obtain rfl:=he.eq;cases hx with|bg hb=>exact .bg (by simpa[fq,hi]using hb)
 |agg _ ih=>intro x hx;obtain⟨a',rfl,h1⟩:=hx.fo;exact .gz (ih _ h1)
 |dF _ ih=>intro x hx;obtain⟨a',rfl,h1⟩:=hx.sJ;exact .iM (ih _ h1)
 |nq _ ih=>intro x hx;cases hx with|nq vt=>exact .nq (ih _ vt)
 |cH _ _ BI BJ=>
  intro x hx;cases hx with
  |cH hs ha ht hk=>
   have q1:=BI _ ⟨by rw[Array.length_toList];exact hs,fun i t v q1 q2=>ha i t v q1 (by simpa using q2)⟩;have q2:=BJ _ ⟨by rw[Array.length_toList];exact ht,fun i t v q1 q2=>hk i t v q1 (by simpa using q2)⟩;exact .cH (by have:=q1.1;rwa [Array.length_toList]at this) (fun i t v r1 r2=>q1.2 i t v r1 (by simpa using r2)) (by have:=q2.1;rwa [Array.length_toList]at this) (fun i t v r1 r2=>q2.2 i t v r1 (by simpa using r2))
 |j=>intro x _;exact .j _
 |nil=>intro m hm;rw[hm.bK];exact .nil
 |cons _ _ BI BJ=>intro m hm;obtain⟨v,m',rfl,h1,h2⟩:=hm.aP;exact .cons (BI _ h1) (BJ _ h2)
theorem p6 (H:Mem X ρ F o c h) (v v':TV) (x:Value) (L:ZJ ids o v v') (hv:VR c ρ F h v x):VR ids.length (fq ids zf ρ) F h v' x:=oP.rel H L x hv
theorem Eg (H:Mem X ρ F o c h) (l l':List TV) (m:List Value) (L:ZK ids o l l') (hv:dI c ρ F h l m):dI ids.length (fq ids zf ρ) F h l' m:=oP.rel H L m hv
theorem fh {z:Nat}:∀{es:List (List TV)} {i:Nat} {e:List TV},(∀e∈es,e.length=z)→es[i]? =some e→(es.flatten.drop (i*z)).take z=e∧(i+1)*z≤es.flatten.length
 |[],i,e,_,h=>by simp at h
 |a::l,0,e,hz,h=>by
  simp at h;subst h;have:=hz a List.mem_cons_self;simp[this]
 |a::l,i+1,e,hz,h=>by
  have ha:=hz a List.mem_cons_self;obtain⟨h1,h2⟩:=fh (es:=l) (i:=i) (fun e he=>hz e (List.mem_cons_of_mem _ he)) (by simpa using h);have e1:(i+1)*z=a.length+i*z:=by rw[ha,Nat.add_mul];omega
  refine⟨?_,?_⟩
  ·rw[List.flatten_cons,e1,List.drop_append,List.drop_eq_nil_of_le om];simpa using h1
  ·rw[List.flatten_cons,List.length_append];have e2:(i+1+1)*z=a.length+(i+1)*z:=by rw[ha,Nat.add_mul (i+1)];omega
   omega
theorem jM {z:Nat}:∀{es:List (List TV)} {i:Nat} {e:List TV},(∀e∈es,e.length=z)→i<es.length→(es.set i e).flatten=es.flatten.take (i*z)++(e++(es.flatten.drop (i*z)).drop z)
 |[],i,e,_,h=>by simp at h
 |a::l,0,e,hz,h=>by
  have:=hz a List.mem_cons_self;subst this;simp
 |a::l,i+1,e,hz,h=>by
  have ha:=hz a List.mem_cons_self;have ih:=jM (es:=l) (i:=i) (e:=e) (fun e he=>hz e (List.mem_cons_of_mem _ he)) (by simpa using h);have e1:(i+1)*z=a.length+i*z:=by rw[ha,Nat.add_mul];omega
  rw[List.set_cons_succ,List.flatten_cons,List.flatten_cons,ih,e1,List.take_length_add_append,List.drop_length_add_append,List.append_assoc]
theorem cI.ZS {base:Nat} {S V:Ft} {l l2:List TV} {m:List Value} (H:cI c ρ F h base S l m) (p n:Nat) (hf:∀S2,cI c ρ F h base S2 ((l.drop p).take n) ((m.drop p).take n)→∃S3,cI c ρ F h base S3 l2 ((m.drop p).take n)∧S3.Perm (S2++V)):
 ∃S',cI c ρ F h base S' (l.take p++(l2++(l.drop p).drop n)) m∧S'.Perm (S++V):=by
 obtain⟨S1,S2,S3,rfl,h1,h2,h3⟩:=H.part p n;obtain⟨S4,h4,h5⟩:=hf S2 h2;refine⟨S1++(S4++S3),?_,?_⟩
 ·have:=h1.join (h4.join h3)
  rwa [List.take_append_drop,List.take_append_drop]at this
 ·refine((h5.append_right S3).append_left S1).trans ?_;rw[List.append_assoc,List.append_assoc,List.append_assoc];exact(((List.perm_append_comm (l₁:=V) (l₂:=S3)).append_left S2)).append_left S1
theorem cI.G6 {base:Nat} {S:Ft} {l:List TV} {m:List Value} (H:cI c ρ F h base S l m):(∀t∈l,mD t=true)→CR F h base S (.cs l m):=by
 induction H with
 |nil=>intro _;exact .nil
 |vr hv _ ih=>
  rename_i t v l m _;intro hc;have h1:=hc t List.mem_cons_self;have h2:=ih fun t ht=>hc t (List.mem_cons_of_mem _ ht);have hf:M.fz t=true:=by
   unfold mD at h1;split at h1
   ·cases hv
   ·exact h1
  exact .cons (S:=[]) (.fz hf (hv.dN hf)) h2
 |cl hv _ ih=>intro hc;exact .cons hv (ih fun t ht=>hc t (List.mem_cons_of_mem _ ht))
theorem iN.G6 {base kd:Nat} {S:Ft} {l:List (Value×TV)} {m:List MapEntry} (H:iN c ρ F h base kd S l m):(∀e∈l,∀t∈aF e.2,mD t=true)→CR F h base S (.es kd l m):=by
 induction H with
 |nil=>intro _;exact .KB
 |cons hk iH ha hv _ ih=>intro hc;exact .Ao hk iH ha (hv.G6 (hc _ List.mem_cons_self)) (ih fun e he=>hc e (List.mem_cons_of_mem _ he))
theorem cI.conv {base c':Nat} {ρ':Gh} {S:Ft} {l:List TV} {m:List Value} (H:cI c ρ F h base S l m) (hc:∀t∈l,mD t=true):cI c' ρ' F h base S l m:=cI.rM (H.G6 hc) _ _ rfl
theorem iN.conv {base kd c':Nat} {ρ':Gh} {S:Ft} {l:List (Value×TV)} {m:List MapEntry} (H:iN c ρ F h base kd S l m) (hc:∀e∈l,∀t∈aF e.2,mD t=true):iN c' ρ' F h base kd S l m:=iN.rM (H.G6 hc) _ _ _ rfl
theorem iN.put {base kd c':Nat} {ρ':Gh} {k:Value} {v v1:TV} {V:Ft} (ha:di v=di v1) (hf:∀S2 (x:Value),cI c ρ F h base S2 (aF v) x.cells.toList→∃S3,cI c' ρ' F h base S3 (aF v1) x.cells.toList∧S3.Perm (S2++V)):
 ∀{es:List (Value×TV)} {S:Ft} {ev:List MapEntry},(∀e∈es,∀t∈aF e.2,mD t=true)→iN c ρ F h base kd S (dG es k v) ev→∃S',iN c' ρ' F h base kd S' (dG es k v1) ev∧S'.Perm (S++V):=by
 have one:∀{l:List (Value×TV)} {S:Ft} {ev:List MapEntry},(∀e∈l,∀t∈aF e.2,mD t=true)→iN c ρ F h base kd S ((k,v)::l) ev→∃S',iN c' ρ' F h base kd S' ((k,v1)::l) ev∧S'.Perm (S++V):=by
  intro l S ev bT H;cases H with
  |cons hk iH wZ hv hl=>
   obtain⟨S3,h1,h2⟩:=hf _ _ hv;refine⟨_,.cons hk iH (ha.symm.trans wZ) h1 (hl.conv bT),?_⟩;refine(h2.append_right _).trans ?_;rw[List.append_assoc,List.append_assoc];exact List.perm_append_comm.append_left _
 intro es
 induction es with
 |nil=>intro S ev _ H;exact one (by simp) H
 |cons e es ih=>
  intro S ev bT H;unfold dG at H ⊢;have ZT:=fun e' Dt=>bT e' (List.mem_cons_of_mem _ Dt);cases hq:qI k e.1 with
  |true=>rw[hq]at H;exact one ZT H
  |false=>
   rw[hq]at H;cases H with
   |cons hk iH wZ hv hl=>
    obtain⟨S',h1,h2⟩:=ih ZT hl;refine⟨_,.cons hk iH wZ (hv.conv (bT _ List.mem_cons_self)) h1,?_⟩;rw[List.append_assoc];exact h2.append_left _
theorem xF {k:Value} {v:TV}:∀{es:List (Value×TV)} {e:Value×TV},e∈dG es k v→e=(k,v)∨e∈es
 |[],e,h=>by simp[dG]at h;exact .inl h
 |a::l,e,h=>by
  unfold dG at h;split at h
  ·rcases List.mem_cons.1 h with rfl |h
   ·exact .inl rfl
   ·exact .inr (List.mem_cons_of_mem _ h)
  ·rcases List.mem_cons.1 h with rfl |h
   ·exact .inr List.mem_cons_self
   ·rcases xF h with h|h
    ·exact .inl h
    ·exact .inr (List.mem_cons_of_mem _ h)
def LiR (X:Cx) (ρ:Gh) (F:Nat→Prop) (_:Ob) (c:Nat) (h:ab) (S:Nat→Ft) (U:List Nat):Li→Prop
 | .c t y=>∀S0 v,cI c ρ F h X.base S0 [t] [v]→∃S1,CR F h X.base S1 (.c (.own y) v)∧S1.Perm (S0++U.flatMap S)
 | .k l m=>∀S0 vs,cI c ρ F h X.base S0 l vs→∃S1,CR F h X.base S1 (.cs m vs)∧S1.Perm (S0++U.flatMap S)
 | .b q y=>∀yo n S0 l,q=some yo→OR c ρ F h X.base n S0 yo→ρ n=some l→∃S1,CR F h X.base S1 (.o y l)∧S1.Perm (S0++U.flatMap S)
 | .q op oG=>∀es z cs S0,(∀e∈es,e.length=z)→(∀e∈es,∀t∈e,mD t=true)→(∀p∈op,p.1<es.length∧p.2.length=z)→cI c ρ F h X.base S0 (cD es op).flatten cs→
  ∃S1,cI c ρ F h X.base S1 (cD es oG).flatten cs∧S1.Perm (S0++U.flatMap S)∧(∀e∈cD es oG,e.length=z∧∀t∈e,mD t=true)∧(cD es oG).length=es.length
 | .m op oG=>∀es kd ev S0,(∀e∈es,∀t∈aF e.2,mD t=true)→iN c ρ F h X.base kd S0 (Kw es op) ev→∃S1,iN c ρ F h X.base kd S1 (Kw es oG) ev∧S1.Perm (S0++U.flatMap S)∧∀e∈Kw es oG,∀t∈aF e.2,mD t=true
theorem cI.G7 {base:Nat} {S0:Ft} {t:TV} {v:Value} (H:cI c ρ F h base S0 [t] [v]) (hp:eD t=true):S0=[]∧VR c ρ F h t v:=by
 obtain⟨h1,h2⟩:=H.YE (fun t v hv hf=>hv.dN hf) (by simpa using hp);exact⟨h2,h1.head⟩
theorem KE (y:TO) {m:Nat} {l:Loc} {v:Value} (hv:VR c ρ F h (DZ y m) v) (hl:ρ m=some l):VR 1 (fun _=>some l) F h (DZ y 0) v:=by
 cases y with
 |cells cs=>cases hv with|ptr hb=>exact .ptr (hl.symm.trans hb)
 |map kd es=>cases hv with|mp hb=>exact .mp (hl.symm.trans hb)
 |eL kd es op=>cases hv with|mp hb=>exact .mp (hl.symm.trans hb)
 |arr z w es=>cases hv with|tk hn h1 ha h0=>exact .tk om h1 (fun b z len hx=>ha b z len (hl.trans hx)) (fun z hx=>h0 z (hl.trans hx))
 |bx z es op=>cases hv with|tk hn h1 ha h0=>exact .tk om h1 (fun b z len hx=>ha b z len (hl.trans hx)) (fun z hx=>h0 z (hl.trans hx))
 |gZ ks=>cases hv with|bg hb=>exact .bg (hl.symm.trans hb)
theorem OR.loc {base n:Nat} {S:Ft} {y:TO} (H:OR c ρ F h base n S y):∃l,ρ n=some l:=by cases H<;>exact⟨_,by assumption⟩
theorem ji.Cs {U:List Nat} {i:Li} (L:ji o U i):∀l m,i= .k l m→l.length=m.length∧∀t∈m,mD t=true:=by
 induction L with
 |ZL=>rintro l m e;cases e;exact⟨rfl,by simp⟩
 |ZM _ _ _ ih=>
  rintro l m e;cases e;obtain⟨h1,h2⟩:=ih _ _ rfl;refine⟨by simp[h1],fun t ht=>?_⟩;rcases List.mem_cons.1 ht with rfl |ht
  ·rfl
  ·exact h2 t ht
 |kfz _ hf _ ih=>
  rintro l m e;cases e;obtain⟨h1,h2⟩:=ih _ _ rfl;refine⟨by simp[h1],fun t ht=>?_⟩;rcases List.mem_cons.1 ht with rfl |ht
  ·unfold mD;split<;>first|rfl |exact hf
  ·exact h2 t ht
 |_=>rintro l m e;cases e
theorem CR.fzs {base:Nat}:∀{l:List TV} {m:List Value},dI 0 um F h l m→(∀t∈l,M.fz t=true)→CR F h base [] (.cs l m)
 |[],m,H,_=>by rw[H.bK];exact .nil
 |t::l,m,H,hf=>by
  obtain⟨v,m',rfl,h1,h2⟩:=H.aP;exact .cons (S:=[]) (.fz (hf t List.mem_cons_self) h1) (CR.fzs h2 fun t ht=>hf t (List.mem_cons_of_mem _ ht))
theorem KF {v:TV} {x:Value} (hf:DY v=true) (hv:VR c ρ F h v x):di v=fH x∧(∀t∈aF v,fz t=true)∧dI 0 um F h (aF v) x.cells.toList:=by
 have h0:=hv.wu (c':=0) (ρ':=um) hf;have one:(∀cs,v≠ .agg cs)→di v=fH x∧(∀t∈aF v,fz t=true)∧dI 0 um F h (aF v) x.cells.toList:=by
  intro Gl;have e1:aF v=[v]:=by cases v<;>first|rfl |exact absurd rfl (Gl _)
  have e2:fz v=true:=by cases v<;>first|exact hf|exact absurd rfl (Gl _)
  have e3:di v=false:=by cases v<;>first|rfl |exact absurd rfl (Gl _)
  have hx:∀a,x≠ .agg a:=by
   rintro a rfl;cases h0 with
   |j=>simp[fz]at e2
   |s hp=>simp[aC]at hp
   |tk _ h1=>simp[KA]at h1
   |sv _ h1=>simp[KA]at h1
   |pv _ h1=>simp[KA]at h1
   |wp _ h1=>simp[YD]at h1
   |agg=>exact Gl _ rfl
  have e4:fH x=false:=by cases x<;>first|rfl |exact absurd rfl (hx _)
  have e5:x.cells= #[x]:=by cases x<;>first|rfl |exact absurd rfl (hx _)
  rw[e1,e3,e4,e5];exact⟨rfl,by simpa using e2,.cons h0 .nil⟩
 cases v with
 |agg cs=>
  obtain⟨a,rfl,h1⟩:=h0.fo;exact⟨rfl,fun t ht=>List.all_eq_true.1 hf t ht,h1⟩
 |_=>exact one (by intro cs e;cases e)
theorem CR.Wj {base kd:Nat}:∀{es:List (Value×TV)} {ev:List MapEntry},es.length=ev.length→(∀(i:Nat) e e',es[i]? =some e→ev[i]? =some e'→e'.key=e.1∧(0<kd∧a6 e.1=kd)∧DY e.2=true∧VR c ρ F h e.2 e'.val)→CR F h base [] (.es kd es ev)
 |[],[],_,_=>.KB
 |[],_::_,h,_=>by simp at h
 |_::_,[],h,_=>by simp at h
 |e::es,e'::ev,hl,hc=>by
  obtain⟨h1,h2,h3,h4⟩:=hc 0 e e' rfl rfl;obtain⟨k1,k2,k3⟩:=KF h3 h4;exact .Ao (S:=[]) h1 h2 k1 (CR.fzs k3 k2) (CR.Wj (by simpa using hl) fun i x x' q1 q2=>hc (i+1) x x' (by simpa using q1) (by simpa using q2))
theorem ik {z:Nat}:∀{es:List (List TV)} {cs:List Value},cs.length=es.length*z→(∀e∈es,e.length=z)→(∀(i j:Nat) e t v,es[i]? =some e→e[j]? =some t→cs[i*z+j]? =some v→VR c ρ F h t v)→dI c ρ F h es.flatten cs
 |[],cs,hl,_,_=>by
  have:cs=[]:=List.length_eq_zero_iff.1 (by simpa using hl);subst this;exact .nil
 |e::es,cs,hl,he,hc=>by
  have hz:=he e List.mem_cons_self;have e1:cs=cs.take z++cs.drop z:=(List.take_append_drop _ _).symm;rw[List.length_cons,Nat.add_mul]at hl;rw[e1,List.flatten_cons];refine dI.append ⟨by simp;omega,fun j t v q1 q2=>?_⟩ (ik (z:=z) (by simp;omega) (fun e Dt=>he e (List.mem_cons_of_mem _ Dt)) fun i j e t v q1 q2 q3=>?_)
  ·rw[List.getElem?_take]at q2;split at q2
   ·exact hc 0 j e t v rfl q1 (by rw[←q2];congr 1;omega)
   ·cases q2
  ·rw[List.getElem?_drop]at q3;exact hc (i+1) j e t v (by simpa using q1) q2 (by rw[←q3];congr 1;rw[Nat.add_mul];omega)
theorem Zl.len {x y:List TV} (H:Zl x y):y.length=x.length:=by
 induction H with
 |nil=>rfl
 |same _ ih=>simp[ih]
 |zero _ ih=>simp[ih]
theorem Zl.fz {x y:List TV} (H:Zl x y):(∀t∈x,M.fz t=true)→∀t∈y,M.fz t=true:=by
 induction H with
 |nil=>exact fun h=>h
 |same _ ih=>
  intro h t ht;rcases List.mem_cons.1 ht with rfl |ht
  ·exact h _ List.mem_cons_self
  ·exact ih (fun t ht=>h t (List.mem_cons_of_mem _ ht)) t ht
 |zero _ ih=>
  intro h t ht;rcases List.mem_cons.1 ht with rfl |ht
  ·rfl
  ·exact ih (fun t ht=>h t (List.mem_cons_of_mem _ ht)) t ht
theorem Zl.vr {x y:List TV} (H:Zl x y):∀(j:Nat) t',y[j]? =some t'→∃t,x[j]? =some t∧∀v,VR c ρ F h t v→VR c ρ F h t' v:=by
 induction H with
 |nil=>intro j t' h;simp at h
 |same _ ih=>
  intro j t' h;cases j with
  |zero=>simp at h;subst h;exact⟨_,rfl,fun _ h=>h⟩
  |succ j=>simpa using ih j t' (by simpa using h)
 |zero _ ih=>
  intro j t' h;cases j with
  |zero=>
   simp at h;subst h;refine⟨_,rfl,fun v hv=>?_⟩;cases hv with
   |nil=>exact .nil rfl
   |sl _ _ hz=>exact absurd hz (Nat.lt_irrefl 0)
  |succ j=>simpa using ih j t' (by simpa using h)
theorem ji.rel (H:Mem X ρ F o c h) {S:Nat→Ft} (K:MO X ρ F o c h S) {U:List Nat} {i:Li} (L:ji o U i):LiR X ρ F o c h S U i∧∀u∈U,∃y,look o u=some y:=by
 have named:∀{U:List Nat} {m:Nat} {y:TO},eD (DZ y m)=true→(LiR X ρ F o c h S U (.b (look o m) y)∧∀u∈U,∃y,look o u=some y)→(∃y0,look o m=some y0)→LiR X ρ F o c h S (m::U) (.c (DZ y m) y)∧∀u∈m::U,∃y,look o u=some y:=by
  rintro U m y hp ⟨BI,BJ⟩ ⟨y0,hl⟩;refine⟨fun S0 v hv=>?_,fun u hu=>?_⟩
  ·obtain⟨rfl,vt⟩:=hv.G7 hp;have hO:=K.b7 m y0 hl;obtain⟨l,eE⟩:=hO.loc;obtain⟨S1,h1,h2⟩:=BI y0 m _ l hl hO eE;exact⟨S1,.own h1 (KE y vt eE),by simpa using h2⟩
  ·rcases List.mem_cons.1 hu with rfl |hu
   ·exact⟨y0,hl⟩
   ·exact BJ u hu
 have uq:∀{U:List Nat} {m:Nat} {y:TO},ji o U (.b (look o m) y)→∃y0,look o m=some y0:=by
  intro U m y hL;generalize hq:look o m=q at hL;cases q with
  |none=>cases hL
  |some y0=>exact⟨y0,rfl⟩
 have p0:∀(S0:Ft),S0.Perm (S0++([]:List Nat).flatMap S):=fun S0=>by simp
 induction L with
 |same hy=>obtain rfl:=hy.eq;exact⟨fun S0 v hv=>⟨S0,by
  cases hv with
  |vr hv _=>cases hv
  |cl hv hl=>cases hl;simpa using hv,p0 S0⟩,by simp⟩
 |ptr hL ih=>exact named rfl ih (uq hL)
 |mp hL ih=>exact named (y:=.map _ _) rfl ih (uq hL)
 |mpq hL ih=>exact named (y:=.eL _ _ _) rfl ih (uq hL)
 |tk hL ih=>exact named (y:=.arr _ _ _) rfl ih (uq hL)
 |tkq hL ih=>exact named (y:=.bx _ _ _) rfl ih (uq hL)
 |bg hl hL ih=>obtain rfl:=hl.eq;exact named (y:=.gZ _) rfl ih (uq hL)
 |Cf h0=>
  refine⟨fun S0 v hv=>?_,by simp⟩;obtain⟨rfl,vt⟩:=hv.G7 rfl;refine⟨[],.own (.Cf (aS.1 h0)) ?_,p0 _⟩;cases vt with
  |nil=>exact .tk om rfl (fun b z len hx=>by cases hx) (fun z hx=>.inl rfl)
  |sl h1 h2 h3=>omega
 |gF h0=>
  refine⟨fun S0 v hv=>?_,by simp⟩;obtain⟨rfl,vt⟩:=hv.G7 rfl;refine⟨[],.own (.gF (aS.1 h0)) ?_,p0 _⟩;cases vt with
  |nil=>exact .tk om rfl (fun b z len hx=>by cases hx) (fun z hx=>.inl rfl)
  |sl h1 h2 h3=>omega
 |cells _ ih=>
  refine⟨fun yo n S0 l e hO eE=>?_,ih.2⟩;cases e;cases hO with
  |cells hb hg ht hc=>
   rw[hb]at eE;cases eE;obtain⟨S1,h1,h2⟩:=ih.1 _ _ hc;exact⟨_,.cells hg ht h1,h2.cons _⟩
 |map he=>
  obtain rfl:=he.eq;refine⟨fun yo n S0 l e hO eE=>?_,by simp⟩;cases e;cases hO with
  |map hb hg hl hc bW=>
   rw[hb]at eE;cases eE;exact⟨_,.map hg hl (fun i e e' q1 q2=>let⟨r1,r2,r3,r4⟩:=hc i e e' q1 q2;⟨r1,r2,r3,r4.wu r3⟩) bW,p0 _⟩
 |Rs he=>
  obtain rfl:=he.eq;refine⟨fun yo n S0 l e hO eE=>?_,by simp⟩;cases e;cases hO with
  |map hb hg hl hc bW=>
   rw[hb]at eE;cases eE;exact⟨_,.eL hg (CR.Wj hl hc) bW,p0 _⟩
 |arr he=>
  obtain rfl:=he.eq;refine⟨fun yo n S0 l e hO eE=>?_,by simp⟩;cases e;cases hO with
  |nil hb hz=>rw[hb]at eE;cases eE;exact⟨_,.Cf hz,p0 _⟩
  |arr hb hg hf ht dx hz hl he gK hc hF=>
   rw[hb]at eE;cases eE;exact⟨_,.arr hg hf ht dx hz hl he gK (fun i j e t v q1 q2 q3=>(hc i j e t v q1 q2 q3).dN (gK e (List.mem_of_getElem? q1) t (List.mem_of_getElem? q2))) hF,p0 _⟩
 |ac0 ha bX Gn=>
  rename_i z w a b l0 x y;have ea:=ha.eq;have eb:=bX.eq;refine⟨fun yo n S0 l e hO eE=>?_,by simp⟩;cases e;cases hO with
  |nil hb hz=>exact absurd ea (by simp)
  |arr hb hg hf ht dx hz hl he gK hc hF=>
   rw[hb]at eE;cases eE;have hlen:a.length=b.length:=by rw[ea,←eb];simp
   have hx:x∈a:=by rw[ea];simp
   have key:∀e'∈b,e'∈a∨e'=y:=fun e' Dt=>by
    rw[←eb]at Dt;rcases List.mem_append.1 Dt with q|q
    ·exact .inl (by rw[ea];exact List.mem_append_left _ q)
    ·exact .inr (by simpa using q)
   have ada:∀(i j:Nat) e' t',b[i]? =some e'→e'[j]? =some t'→∃e t,a[i]? =some e∧e[j]? =some t∧∀v,VR c ρ F h t v→VR c ρ F h t' v:=fun i j e' t' q1 q2=>by
    rw[←eb]at q1;by_cases hi:i<l0.length
    ·rw[List.getElem?_append_left hi]at q1;exact⟨e',t',by rw[ea,List.getElem?_append_left hi];exact q1,q2,fun _ h=>h⟩
    ·rw[List.getElem?_append_right om]at q1;have Jb:i - l0.length=0:=by have:=(List.getElem?_eq_some_iff.1 q1).1;simp at this;omega
     rw[Jb]at q1;simp at q1;subst q1;obtain⟨t,q3,q4⟩:=Gn.vr j t' q2;exact⟨x,t,by rw[ea,List.getElem?_append_right om,Jb];rfl,q3,q4⟩
   have zL:∀e∈b,∀t∈e,fz t=true:=fun e' Dt=>by
    rcases key e' Dt with q|rfl
    ·exact gK e' q
    ·exact Gn.fz (gK x hx)
   rw[hlen]at hl ⊢;exact⟨_,.arr hg hf ht dx hz hl (fun e' Dt=>by
    rcases key e' Dt with q|rfl
    ·exact he e' q
    ·rw[Gn.len];exact he x hx) zL (fun i j e' t' v q1 q2 q3=>by
    obtain⟨e,t,r1,r2,r3⟩:=ada i j e' t' q1 q2;exact(r3 v (hc i j e t v r1 r2 q3)).dN (zL e' (List.mem_of_getElem? q1) t' (List.mem_of_getElem? q2))) hF,p0 _⟩
 |Rt he=>
  obtain rfl:=he.eq;refine⟨fun yo n S0 l e hO eE=>?_,by simp⟩;cases e;cases hO with
  |nil hb hz=>rw[hb]at eE;cases eE;exact⟨_,.gF hz,p0 _⟩
  |arr hb hg hf ht dx hz hl he gK hc hF=>
   rw[hb]at eE;cases eE;refine⟨_,.bx hg hf ht dx hz hl he (CR.fzs (ik hl he fun i j e t v q1 q2 q3=>(hc i j e t v q1 q2 q3).dN (gK e (List.mem_of_getElem? q1) t (List.mem_of_getElem? q2))) fun t ht=>?_),p0 _⟩;obtain⟨e,h1,h2⟩:=List.mem_flatten.1 ht;exact gK e h1 t h2
 |bx hs he _ ih=>
  refine⟨fun yo n S0 l e hO eE=>?_,ih.2⟩;cases e;obtain rfl:=he.eq;cases hO with
  |gF hb hz=>rw[hb]at eE;cases eE;cases hs;exact⟨_,.gF hz,by
   obtain⟨S1,h1,h2,_⟩:=ih.1 [] 1 [] [] (by simp) (by simp) (by simp) .nil;cases h1;exact h2⟩
  |bx hb hg hf ht dx hz hl he bT jA hc=>
   rw[hb]at eE;cases eE;obtain⟨S1,h1,h2,h3,h4⟩:=ih.1 _ _ _ _ he bT jA hc;have:=CR.bx (S:=S1) hg hf ht dx hz (by rw[hl,h4]) (fun e he=>(h3 e he).1) (h1.G6 fun t ht=>by
    obtain⟨e,q1,q2⟩:=List.mem_flatten.1 ht;exact(h3 e q1).2 t q2)
   rw[h4]at this;exact⟨_,this,h2.cons _⟩
 |Ky hs he nS _ ih=>
  refine⟨fun yo n S0 l e hO eE=>?_,ih.2⟩;cases e;obtain rfl:=he.eq;cases hO with
  |gF hb hz=>rw[hb]at eE;cases eE;cases hs;exact⟨_,.Cf hz,by
   obtain⟨S1,h1,h2,_⟩:=ih.1 [] 1 [] [] (by simp) (by simp) (by simp) .nil;cases h1;exact h2⟩
  |bx hb hg hf ht dx hz hl he bT jA hc=>
   rw[hb]at eE;cases eE;obtain⟨S1,h1,h2,h3,h4⟩:=ih.1 _ _ _ _ he bT jA hc;have:=CR.bx (S:=S1) hg hf ht dx hz (by rw[hl,h4]) (fun e he=>(h3 e he).1) (h1.G6 fun t ht=>by
    obtain⟨e,q1,q2⟩:=List.mem_flatten.1 ht;exact(h3 e q1).2 t q2)
   rw[h4]at this;exact⟨_,this.Ky nS,h2.cons _⟩
 |eL hs he _ ih=>
  refine⟨fun yo n S0 l e hO eE=>?_,ih.2⟩;cases e;obtain rfl:=he.eq;cases hO with
  |eL hb hg bT hc bW=>
   rw[hb]at eE;cases eE;obtain⟨S1,h1,h2,h3⟩:=ih.1 _ _ _ _ bT hc;exact⟨_,.eL hg (h1.G6 h3) bW,h2.cons _⟩
 |gZ he=>
  obtain rfl:=he.eq;refine⟨fun yo n S0 l e hO eE=>?_,by simp⟩;cases e;cases hO with
  |gZ hb hg=>rw[hb]at eE;cases eE;exact⟨_,.gZ hg,p0 _⟩
 |ZL=>exact⟨fun S0 vs hv=>by cases hv;exact⟨[],.nil,by simp⟩,by simp⟩
 |ZM _ _ BI BJ=>
  rename_i U1 U2 a y l m _ _;refine⟨fun S0 vs hv=>?_,fun u hu=>(List.mem_append.1 hu).elim (BI.2 u) (BJ.2 u)⟩;have split:∃A B v nB,S0=A++B∧vs=v::nB∧cI c ρ F h X.base A [a] [v]∧cI c ρ F h X.base B l nB:=by
   cases hv with
   |vr h1 h2=>exact⟨[],_,_,_,rfl,rfl,.vr h1 .nil,h2⟩
   |cl h1 h2=>exact⟨_,_,_,_,rfl,rfl,by simpa using cI.cl h1 .nil,h2⟩
  obtain⟨A,B,v,nB,rfl,rfl,h1,h2⟩:=split;obtain⟨A1,k1,k2⟩:=BI.1 A v h1;obtain⟨B1,k3,k4⟩:=BJ.1 B nB h2;refine⟨A1++B1,.cons k1 k3,(k2.append k4).trans ?_⟩;rw[List.flatMap_append];simp only[List.append_assoc];refine List.Perm.append_left _ ?_;rw[←List.append_assoc,←List.append_assoc];exact List.perm_append_comm.append_right _
 |kfz hv hf _ ih=>
  rename_i U1 a b l m _;refine⟨fun S0 vs QT=>?_,ih.2⟩;have hpa:eD a=true:=by cases hv<;>first|rfl |simp[M.fz]at hf
  have split:∃v nB,vs=v::nB∧VR c ρ F h a v∧cI c ρ F h X.base S0 l nB:=by
   cases QT with
   |vr h1 h2=>exact⟨_,_,rfl,h1,h2⟩
   |cl h1 h2=>
    cases h1 with
    |fz ZU vt=>exact⟨_,_,rfl,vt.dN ZU,h2⟩
    |own=>simp[eD]at hpa
  obtain⟨v,nB,rfl,h1,h2⟩:=split;obtain⟨S1,k1,k2⟩:=ih.1 S0 nB h2;exact⟨S1,.cons (S:=[]) (.fz hf ((p6 (zf:=fun _=>0) H _ _ _ hv h1).dN hf)) k1,k2⟩
 |q0=>exact⟨fun es z cs S0 hz bT _ hc=>⟨S0,hc,p0 S0,fun e he=>⟨hz e he,bT e he⟩,rfl⟩,by simp⟩
 |q1 hL ih=>
  rename_i U1 i a b;refine⟨fun es z cs S0 hz bT jA hc=>?_,ih.2⟩;obtain⟨k1,k2⟩:=jA (i,a) (by simp);simp only at k1 k2;obtain⟨f1,f2⟩:=hL.Cs _ _ rfl;have jy:∀e∈es.set i a,e.length=z:=fun e he=>by
   rcases List.mem_or_eq_of_mem_set he with h1|rfl
   ·exact hz e h1
   ·exact k2
  obtain⟨r1,r2⟩:=fh jy (i:=i) (e:=a) (by simp[k1]);obtain⟨S1,q1,q2⟩:=cI.ZS (l2:=b) (V:=U1.flatMap S) hc (i*z) z fun S2 h2=>by
   have e:((cD es [(i,a)]).flatten.drop (i*z)).take z=a:=r1;rw[e]at h2;obtain⟨S3,h3,h4⟩:=ih.1 S2 _ h2;exact⟨S3,cI.rM h3 _ _ rfl,h4⟩
  have e2:(cD es [(i,b)]).flatten=(cD es [(i,a)]).flatten.take (i*z)++(b++((cD es [(i,a)]).flatten.drop (i*z)).drop z):=by
   have:=jM (e:=b) jy (i:=i) (by simpa using k1);rw[List.set_set]at this;exact this
  rw[←e2]at q1;refine⟨S1,q1,q2,fun e he=>?_,by simp[cD]⟩;rcases List.mem_or_eq_of_mem_set he with h1|rfl
  ·exact⟨hz e h1,bT e h1⟩
  ·exact⟨om,f2⟩
 |q2 hik hL hR ih ihr=>
  rename_i U1 U2 i k a b a' b';refine⟨fun es z cs S0 hz bT jA hc=>?_,fun u hu=>(List.mem_append.1 hu).elim (ih.2 u) (ihr.2 u)⟩;obtain⟨k1,k2⟩:=jA (i,a) (by simp);obtain⟨l1,l2⟩:=jA (k,a') (by simp);simp only at k1 k2 l1 l2;obtain⟨f1,f2⟩:=hL.Cs _ _ rfl;have hc:cI c ρ F h X.base S0 ((es.set k a').set i a).flatten cs:=hc;have jy:∀e∈(es.set k a').set i a,e.length=z:=fun e he=>by
   rcases List.mem_or_eq_of_mem_set he with h1|rfl
   ·rcases List.mem_or_eq_of_mem_set h1 with h1|rfl
    ·exact hz e h1
    ·exact l2
   ·exact k2
  obtain⟨r1,r2⟩:=fh jy (i:=i) (e:=a) (by simp[k1]);obtain⟨S1,q1,q2⟩:=cI.ZS (l2:=b) (V:=U1.flatMap S) hc (i*z) z fun S2 h2=>by
   have e:(((es.set k a').set i a).flatten.drop (i*z)).take z=a:=r1;rw[e]at h2;obtain⟨S3,h3,h4⟩:=ih.1 S2 _ h2;exact⟨S3,cI.rM h3 _ _ rfl,h4⟩
  have e2:((es.set k a').set i b).flatten=((es.set k a').set i a).flatten.take (i*z)++(b++(((es.set k a').set i a).flatten.drop (i*z)).drop z):=by
   have:=jM (e:=b) jy (i:=i) (by simpa using k1);rw[List.set_set]at this;exact this
  rw[←e2,List.set_comm _ _ (fun e=>hik e.symm)]at q1;obtain⟨S2,w1,w2,w3,w4⟩:=ihr.1 (es.set i b) z cs S1 (fun e he=>by
   rcases List.mem_or_eq_of_mem_set he with h1|rfl
   ·exact hz e h1
   ·omega) (fun e he=>by
   rcases List.mem_or_eq_of_mem_set he with h1|rfl
   ·exact bT e h1
   ·exact f2) (fun p hp=>by simp only[List.mem_singleton]at hp;subst hp;exact⟨by simpa using l1,l2⟩) q1
  have e4:cD (es.set i b) [(k,b')]=cD es [(i,b),(k,b')]:=List.set_comm _ _ hik;rw[e4]at w1 w3 w4;refine⟨S2,w1,?_,w3,by rw[w4];simp⟩;rw[List.flatMap_append,←List.append_assoc];exact w2.trans (q2.append_right _)
 |m0=>exact⟨fun es kd ev S0 bT hc=>⟨S0,hc,p0 S0,bT⟩,by simp⟩
 |m1 ha hL ih=>
  rename_i U1 k a b;refine⟨fun es kd ev S0 bT hc=>?_,ih.2⟩;obtain⟨f1,f2⟩:=hL.Cs _ _ rfl;obtain⟨S1,q1,q2⟩:=iN.put (c':=c) (ρ':=ρ) (V:=U1.flatMap S) ha (fun S2 x h2=>by
   obtain⟨S3,h3,h4⟩:=ih.1 S2 _ h2;exact⟨S3,cI.rM h3 _ _ rfl,h4⟩) bT hc
  refine⟨S1,q1,q2,fun e he=>?_⟩;rcases xF he with rfl |h1
  ·exact f2
  ·exact bT e h1
theorem vV.rel (H:Mem X ρ F o c h) {S:Nat→Ft} (K:MO X ρ F o c h S) {U:List Nat} {a b:List TV} (L:vV ids o U a b):∀{S0:Ft} {vs:List Value},cI c ρ F h X.base S0 a vs→(∃S1,cI ids.length (fq ids zf ρ) F h X.base S1 b vs∧S1.Perm (S0++U.flatMap S))∧∀u∈U,∃y,look o u=some y:=by
 induction L with
 |nil=>intro S0 vs hv;cases hv;exact⟨⟨[],.nil,by simp⟩,by simp⟩
 |own hL _ ih=>
  rename_i U1 U2 a y l m _;intro S0 vs hv;have split:∃A B v nB,S0=A++B∧vs=v::nB∧cI c ρ F h X.base A [a] [v]∧cI c ρ F h X.base B l nB:=by
   cases hv with
   |vr h1 h2=>exact⟨[],_,_,_,rfl,rfl,.vr h1 .nil,h2⟩
   |cl h1 h2=>exact⟨_,_,_,_,rfl,rfl,by simpa using cI.cl h1 .nil,h2⟩
  obtain⟨A,B,v,nB,rfl,rfl,h1,h2⟩:=split;obtain⟨g1,g2⟩:=hL.rel H K;obtain⟨A1,k1,k2⟩:=g1 A v h1;obtain⟨⟨B1,k3,k4⟩,g3⟩:=ih h2;refine⟨⟨A1++B1,.cl k1 k3,(k2.append k4).trans ?_⟩,fun u hu=>(List.mem_append.1 hu).elim (g2 u) (g3 u)⟩;rw[List.flatMap_append];simp only[List.append_assoc];refine List.Perm.append_left _ ?_;rw[←List.append_assoc,←List.append_assoc];exact List.perm_append_comm.append_right _
 |v hV hp _ ih=>
  rename_i U1 a b l m _;intro S0 vs hv;cases hv with
  |vr h1 h2=>
   obtain⟨⟨S1,k1,k2⟩,k3⟩:=ih h2;exact⟨⟨S1,.vr (p6 H _ _ _ hV h1) k1,k2⟩,k3⟩
  |cl h1 h2=>
   cases h1 with
   |fz ZU vt=>
    obtain⟨⟨S1,k1,k2⟩,k3⟩:=ih h2;exact⟨⟨S1,.vr (p6 H _ _ _ hV (vt.dN ZU)) k1,k2⟩,k3⟩
   |own=>simp[eD]at hp
theorem vV.len {U:List Nat} {a b:List TV} (L:vV ids o U a b):a.length=b.length:=by
 induction L with
 |nil=>rfl
 |own _ _ ih=>simp[ih]
 |v _ _ _ ih=>simp[ih]
theorem kV:∀{ids:List (Option Nat)} {k m:Nat},iL c ids=true→ids[k]? =some (some m)→m<c
 |[],k,m,_,h=>by simp at h
 |none::l,k,m,hi,h=>by
  cases k with
  |zero=>simp at h
  |succ k=>exact kV (ids:=l) hi (by simpa using h)
 |some m'::l,k,m,hi,h=>by
  simp only[iL,Bool.and_eq_true,aS]at hi;cases k with
  |zero=>simp at h;subst h;exact hi.1.1
  |succ k=>exact kV (ids:=l) hi.2 (by simpa using h)
theorem mR:∀{ids:List (Option Nat)} {k k' m:Nat},iL c ids=true→ids[k]? =some (some m)→ids[k']? =some (some m)→k=k'
 |[],k,k',m,_,h,_=>by simp at h
 |none::l,k,k',m,hi,h,h'=>by
  cases k with
  |zero=>simp at h
  |succ k=>cases k' with
   |zero=>simp at h'
   |succ k'=>exact congrArg (· +1) (mR (ids:=l) hi (by simpa using h) (by simpa using h'))
 |some m'::l,k,k',m,hi,h,h'=>by
  simp only[iL,Bool.and_eq_true,aS,Bool.not_eq_true',List.contains_eq_mem]at hi;have hn:some m'∉l:=by simpa using hi.1.2
  cases k with
  |zero=>cases k' with
   |zero=>rfl
   |succ k'=>
    simp at h h';subst h;exact absurd (List.mem_of_getElem? h') hn
  |succ k=>cases k' with
   |zero=>
    simp at h h';subst h';exact absurd (List.mem_of_getElem? h) hn
   |succ k'=>exact congrArg (· +1) (mR (ids:=l) hi.2 (by simpa using h) (by simpa using h'))
theorem Aq:∀{n k:Nat} {ids:List (Option Nat)},ph n k ids=true→∀i,i<n→ids[i]? =some (some (k+i))
 |0,k,ids,_,i,hi=>by omega
 |n+1,k,[],h,i,hi=>by simp[ph]at h
 |n+1,k,none::l,h,i,hi=>by simp[ph]at h
 |n+1,k,some m::l,h,i,hi=>by
  simp only[ph,Bool.and_eq_true,beq_iff]at h;obtain⟨rfl,h2⟩:=h;cases i with
  |zero=>simp
  |succ i=>
   have:=Aq h2 i om;simp only[List.getElem?_cons_succ,this]
   congr 2;omega
def KG:TO→Nat
 | .arr z _ _=>z
 | .bx z _ _=>z
 |_=>0
def G8 (o1:Ob) (n:Nat):Nat:=match look o1 n with|some y=>KG y|none=>0
theorem ia {base z i:Nat} {S:Ft} {es:List (List TV)} {x:List TV} {cs:List Value} (hz:∀e∈es,e.length=z) (hi:i<es.length) (H:cI c ρ F h base S (es.set i x).flatten cs):
 ∃S1 S2 S3 v1 v2 v3,S=S1++(S2++S3)∧cs=v1++(v2++v3)∧cI c ρ F h base S1 (es.flatten.take (i*z)) v1∧cI c ρ F h base S2 x v2∧cI c ρ F h base S3 ((es.flatten.drop (i*z)).drop z) v3:=by
 rw[jM hz hi]at H;have h1:(es.flatten.take (i*z)).length=i*z:=by
  obtain⟨e,he⟩:∃e,es[i]? =some e:=⟨_,List.getElem?_eq_getElem hi⟩;have:=(fh hz he).2;rw[Nat.add_mul]at this;rw[List.length_take];omega
 obtain⟨S1,R,rfl,k1,k2⟩:=H.split (i*z);rw[List.take_append_of_le_length om,List.take_of_length_le om]at k1;rw[List.drop_append,List.drop_eq_nil_of_le om,h1,Nat.sub_self,List.drop_zero,List.nil_append]at k2;obtain⟨S2,S3,rfl,k3,k4⟩:=k2.split x.length;rw[List.take_append_of_le_length (Nat.le_refl _),List.take_of_length_le (Nat.le_refl _)]at k3;rw[List.drop_append,List.drop_eq_nil_of_le (Nat.le_refl _),Nat.sub_self,List.drop_zero,List.nil_append]at k4;exact⟨S1,S2,S3,_,_,_,rfl,by rw[List.take_append_drop,List.take_append_drop],k1,k3,k4⟩
theorem kG {base z i:Nat} {S1 S2 S3:Ft} {es:List (List TV)} {y:List TV} {v1 v2 v3:List Value} (hz:∀e∈es,e.length=z) (hi:i<es.length)
 (h1:cI c ρ F h base S1 (es.flatten.take (i*z)) v1) (h2:cI c ρ F h base S2 y v2) (h3:cI c ρ F h base S3 ((es.flatten.drop (i*z)).drop z) v3):cI c ρ F h base (S1++(S2++S3)) (es.set i y).flatten (v1++(v2++v3)):=by
 rw[jM hz hi];exact h1.join (h2.join h3)
theorem rP {es:List (List TV)} (bT:∀e∈es,∀t∈e,mD t=true):∀t∈es.flatten,mD t=true:=fun t ht=>by
 obtain⟨e,h1,h2⟩:=List.mem_flatten.1 ht;exact bT e h1 t h2
theorem oP.Rv {t:TV} (h:fz t=true):oP ids o (.v t) (.v t):=by
 cases t with
 |s v=>exact .s Lz.rfl
 |sl z es fl=>exact .sl (by simp) (by simp) Lz.rfl
 |nq t v=>
  cases v with
  |s v=>exact .nq (.s Lz.rfl)
  |_=>simp[fz]at h
 |cH g a c=>
  cases a with
  |nil=>
   cases c with
   |nil=>exact .cH .nil .nil
   |cons=>simp[fz]at h
  |cons=>simp[fz]at h
 |_=>simp[fz]at h
theorem vV.Jc:∀{l:List TV},(∀t∈l,mD t=true)→vV ids o [] l l
 |[],_=>.nil
 |t::l,h=>by
  have ht:=h t List.mem_cons_self;have ih:=vV.Jc fun x hx=>h x (List.mem_cons_of_mem _ hx);by_cases hq:eD t=true
  ·refine .v (oP.Rv ?_) hq ih;cases t<;>first|exact ht|(simp[eD]at hq)
  ·cases t with
   |own y=>exact .own (.same Lz.rfl) ih
   |_=>simp[eD]at hq
theorem vV.append {U:List Nat} {a b:List TV} (L:vV ids o U a b) {a' b':List TV} (L':vV ids o [] a' b'):vV ids o U (a++a') (b++b'):=by
 induction L with
 |nil=>exact L'
 |own h _ ih=>exact .own h ih
 |v h hp _ ih=>exact .v h hp ih
inductive ox (ids:List (Option Nat)) (o:Ob):List (List TV)→List (List TV)→Prop
 |nil:ox ids o [] []
 |cons {x y:List TV} {l m:List (List TV)} (h:vV ids o [] x y) (k:ox ids o l m):ox ids o (x::l) (y::m)
theorem ox.refl:∀{es:List (List TV)},(∀e∈es,∀t∈e,mD t=true)→ox ids o es es
 |[],_=>.nil
 |e::_,h=>.cons (vV.Jc (h e List.mem_cons_self)) (ox.refl fun x hx=>h x (List.mem_cons_of_mem _ hx))
theorem ox.set {l m:List (List TV)} (R:ox ids o l m) {x y:List TV} (h:vV ids o [] x y):∀i:Nat,ox ids o (l.set i x) (m.set i y):=by
 induction R with
 |nil=>intro i;exact .nil
 |cons h1 k ih=>
  intro i;cases i with
  |zero=>exact .cons h k
  |succ i=>exact .cons h1 (ih i)
theorem ox.flatten {l m:List (List TV)} (R:ox ids o l m):vV ids o [] l.flatten m.flatten:=by
 induction R with
 |nil=>exact .nil
 |cons h _ ih=>rw[List.flatten_cons,List.flatten_cons];exact h.append ih
theorem Am.rows {op Kz:List (Nat×List TV)} (L:Am ids o op Kz) {es:List (List TV)} (bT:∀e∈es,∀t∈e,mD t=true):ox ids o (cD es op) (cD es Kz)∧∀p∈Kz,∃x,(p.1,x)∈op∧x.length=p.2.length:=by
 induction L with
 |nil=>exact⟨.refl bT,by simp⟩
 |cons h _ ih=>
  refine⟨ih.1.set h _,fun p hp=>?_⟩;rcases List.mem_cons.1 hp with rfl |hp
  ·exact⟨_,List.mem_cons_self,h.len⟩
  ·obtain⟨x,q1,q2⟩:=ih.2 p hp;exact⟨x,List.mem_cons_of_mem _ q1,q2⟩
theorem Ch.rel (H:Mem X ρ F o c h) {S:Nat→Ft} (K:MO X ρ F o c h S) {U:List Nat} {q:Option (Option TO)} {y:TO} (L:Ch ids o U q y) {n:Nat} (hq:q=Cg ids o n) (QZ:zf n=KG y):
 ∃S1,OR ids.length (fq ids zf ρ) F h X.base n S1 y∧((∃m,ids[n]? =some (some m)∧(∃y,look o m=some y)∧S1.Perm ((m::U).flatMap S))∨(S1=[]∧U=[]))∧∀u∈U,∃y,look o u=some y:=by
 have src:∀y0,some (some y0)=Cg ids o n→∃m,ids[n]? =some (some m)∧look o m=some y0:=by
  intro y0 hs;unfold Cg at hs;split at hs
  ·rename_i m hm;split at hs
   ·rename_i y1 hy;cases hs;exact⟨m,hm,hy⟩
   ·cases hs
  ·cases hs
  ·cases hs
 have isn:some none=Cg ids o n→ids[n]? =some none:=by
  intro hs;unfold Cg at hs;split at hs
  ·split at hs<;>cases hs
  ·assumption
  ·cases hs
 have fin:∀{U:List Nat} {y y0:TO},some (some y0)=Cg ids o n→(∀m S0,ids[n]? =some (some m)→look o m=some y0→fq ids zf ρ n=ρ m→OR c ρ F h X.base m S0 y0→∃S1,OR ids.length (fq ids zf ρ) F h X.base n S1 y∧S1.Perm (S0++U.flatMap S))→(∀u∈U,∃y,look o u=some y)→
  ∃S1,OR ids.length (fq ids zf ρ) F h X.base n S1 y∧((∃m,ids[n]? =some (some m)∧(∃y,look o m=some y)∧S1.Perm ((m::U).flatMap S))∨(S1=[]∧U=[]))∧∀u∈U,∃y,look o u=some y:=by
  intro U y y0 hs hf hU;obtain⟨m,h1,h2⟩:=src y0 hs;obtain⟨S1,k1,k2⟩:=hf m _ h1 h2 (by simp[fq,h1]) (K.b7 m y0 h2);exact⟨S1,k1,.inl ⟨m,h1,⟨y0,h2⟩,by simpa using k2⟩,hU⟩
 have p0:∀(S0:Ft),S0.Perm (S0++([]:List Nat).flatMap S):=fun S0=>by simp
 have closed:∀{U:List Nat} {y y0:TO},some (some y0)=Cg ids o n→ji o U (.b (some y0) y)→∃S1,OR ids.length (fq ids zf ρ) F h X.base n S1 y∧((∃m,ids[n]? =some (some m)∧(∃y,look o m=some y)∧S1.Perm ((m::U).flatMap S))∨(S1=[]∧U=[]))∧∀u∈U,∃y,look o u=some y:=by
  intro U y y0 hs hL;obtain⟨g1,g2⟩:=hL.rel H K;refine fin hs (fun m S0 h1 h2 fp hO=>?_) g2;obtain⟨l,hl⟩:=hO.loc;obtain⟨S1,k1,k2⟩:=g1 y0 m S0 l rfl hO hl;exact⟨S1,OR.rM k1 (fp.trans hl),k2⟩
 cases L with
 |cells hN=>
  obtain⟨m,h1,h2⟩:=src _ hq;have hO:=K.b7 m _ h2;refine fin hq (fun m' S0 _ _ fp Rw=>?_) ?_
  ·cases Rw with
   |cells hb hg ht hc=>
    obtain⟨⟨S1,k1,k2⟩,_⟩:=hN.rel (zf:=zf) H K hc;exact⟨_,.cells (fp.trans hb) hg ht k1,k2.cons _⟩
  ·generalize S m=S0 at hO;cases hO with
   |cells hb hg ht hc=>exact(hN.rel (zf:=zf) H K hc).2
 |map he=>exact closed hq (.map he)
 |Rs he=>exact closed hq (.Rs he)
 |arr he=>exact closed hq (.arr he)
 |Rt he=>exact closed hq (.Rt he)
 |bx hs he hL=>exact closed hq (.bx hs he hL)
 |Ky hs he nS hL=>exact closed hq (.Ky hs he nS hL)
 |eL hs he hL=>exact closed hq (.eL hs he hL)
 |gZ he=>exact closed hq (.gZ he)
 |ac2 he hi hN=>
  rename_i z a b i j x w;obtain rfl:=he.eq;obtain rfl:=hi.eq;obtain⟨m,h1,h2⟩:=src _ hq;have hO:=K.b7 m _ h2;refine fin hq (fun m' S0 _ _ fp Rw=>?_) ?_
  ·cases Rw with
   |bx hb hg hf ht dx hz hl he bT jA hc=>
    obtain⟨o1,o2⟩:=jA (i,x) (by simp);obtain⟨S1,S2,S3,v1,v2,v3,rfl,rfl,a1,a2,a3⟩:=ia he o1 hc;obtain⟨⟨S4,k1,k2⟩,_⟩:=hN.rel (zf:=zf) H K a2;have fc:=rP bT;have:=kG he o1 (a1.conv (c':=ids.length) (ρ':=fq ids zf ρ) fun t ht=>fc t (List.mem_of_mem_take ht)) k1 (a3.conv fun t ht=>fc t (List.mem_of_mem_drop (List.mem_of_mem_drop ht)));refine⟨_,.bx (fp.trans hb) hg hf ht dx hz hl he bT (fun p hp=>?_) this,?_⟩
    ·simp only[List.mem_singleton]at hp;subst hp;exact⟨o1,by rw[←hN.len];exact o2⟩
    ·refine List.Perm.cons _ ((List.Perm.append_left S1 (k2.append_right S3)).trans ?_);show List.Perm _ ((S1++(S2++S3))++U.flatMap S);simp only[List.append_assoc];exact(List.perm_append_comm.append_left _).append_left _
  ·generalize S m=S0 at hO;cases hO with
   |bx hb hg hf ht dx hz hl he bT jA hc=>
    obtain⟨o1,o2⟩:=jA (i,x) (by simp);obtain⟨S1,S2,S3,v1,v2,v3,rfl,rfl,a1,a2,a3⟩:=ia he o1 hc;exact(hN.rel (zf:=zf) H K a2).2
 |ac3 he hk ha hN=>
  rename_i kd a b k k' x w;obtain rfl:=he.eq;obtain rfl:=hk.eq;obtain⟨m,h1,h2⟩:=src _ hq;have hO:=K.b7 m _ h2;have hU:∀u∈U,∃y,look o u=some y:=by
   generalize S m=S0 at hO;cases hO with
   |eL hb hg bT hc bW=>
    have key:∀{es:List (Value×TV)} {S0:Ft} {ev:List MapEntry},iN c ρ F h X.base kd S0 (dG es k x) ev→∃S2 vs,cI c ρ F h X.base S2 (aF x) vs:=by
     intro es
     induction es with
     |nil=>intro S0 ev hE;cases hE with|cons _ _ _ hv _=>exact⟨_,_,hv⟩
     |cons e es ih=>
      intro S0 ev hE;unfold dG at hE;split at hE
      ·cases hE with|cons _ _ _ hv _=>exact⟨_,_,hv⟩
      ·cases hE with|cons _ _ _ _ hl=>exact ih hl
    obtain⟨S2,vs,hv⟩:=key hc;exact(hN.rel (zf:=zf) H K hv).2
  refine fin hq (fun m' S0 _ _ fp Rw=>?_) hU;cases Rw with
  |eL hb hg bT hc bW=>
   obtain⟨S1,q1,q2⟩:=iN.put (c':=ids.length) (ρ':=fq ids zf ρ) (V:=U.flatMap S) ha (fun S2 x h2=>(hN.rel (zf:=zf) H K h2).1) bT hc;exact⟨_,.eL (fp.trans hb) hg bT q1 bW,q2.cons _⟩
 |G0 he hN=>
  rename_i z a b op Kz;obtain rfl:=he.eq;refine fin hq (fun m' S0 _ _ fp Rw=>?_) (by simp);cases Rw with
  |bx hb hg hf ht dx hz hl he bT jA hc=>
   obtain⟨r1,r2⟩:=hN.rows bT;obtain⟨⟨S1,k1,k2⟩,_⟩:=r1.flatten.rel (zf:=zf) H K hc;refine⟨_,.bx (fp.trans hb) hg hf ht dx hz hl he bT (fun p hp=>?_) k1,k2.cons _⟩;obtain⟨x,q1,q2⟩:=r2 p hp;obtain⟨w1,w2⟩:=jA _ q1;exact⟨w1,by rw[←q2];exact w2⟩
  |gF hb hz=>
   cases hN;exact⟨[],.gF (fp.trans hb) hz,by simp⟩
 |new hz=>
  have hi:=isn hq;exact⟨[],.nil (by simp[fq,hi,QZ,KG]) (aS.1 hz),.inr ⟨rfl,rfl⟩,by simp⟩
 |ac4 hz=>
  have hi:=isn hq;exact⟨[],.gF (by simp[fq,hi,QZ,KG]) (aS.1 hz),.inr ⟨rfl,rfl⟩,by simp⟩
 |rI Dq he hx hv=>
  rename_i z a b i j x y e e';obtain rfl:=he.eq;obtain⟨g1,g2⟩:=hx.rel H K;obtain⟨f1,f2⟩:=hx.Cs _ _ rfl;refine fin hq (fun m' S0 _ _ fp Rw=>?_) g2;cases Rw with
  |bx hb hg hf ht dx hz hl vu bT jA hc=>
   obtain⟨o1,o2⟩:=jA (i,x) (by simp);obtain⟨o3,o4⟩:=jA (j,e) (by simp);have o2:x.length=z:=o2;have ZV:∀r∈a.set j e,r.length=z:=fun r hr=>by
    rcases List.mem_or_eq_of_mem_set hr with q|q
    ·exact vu r q
    ·rw[q];exact o4
   have Wk:∀r∈a.set i y,r.length=z:=fun r hr=>by
    rcases List.mem_or_eq_of_mem_set hr with q|q
    ·exact vu r q
    ·rw[q,←f1];exact o2
   have ZW:∀r∈a.set i y,∀t∈r,mD t=true:=fun r hr=>by
    rcases List.mem_or_eq_of_mem_set hr with q|q
    ·exact bT r q
    ·rw[q];exact f2
   obtain⟨S1,S2,S3,v1,v2,v3,rfl,rfl,a1,a2,a3⟩:=ia (x:=x) ZV (by rw[List.length_set];exact o1) hc;obtain⟨S4,k1,k2⟩:=g1 _ _ a2;have hj:=kG ZV (by rw[List.length_set];exact o1) a1 (cI.rM k1 _ _ rfl) a3;rw[List.set_comm _ _ (Ne.symm Dq)]at hj;obtain⟨T1,T2,T3,w1,w2,w3,q1,q2,b1,b2,b3⟩:=ia Wk (by rw[List.length_set];exact o3) hj;obtain⟨⟨T4,l1,l2⟩,_⟩:=hv.rel (zf:=zf) H K b2;have fc:=rP ZW;have ZX:=kG Wk (by rw[List.length_set];exact o3) (b1.conv (c':=ids.length) (ρ':=fq ids zf ρ) fun t ht=>fc t (List.mem_of_mem_take ht)) l1 (b3.conv fun t ht=>fc t (List.mem_of_mem_drop (List.mem_of_mem_drop ht)))
   rw[←q2]at ZX;refine⟨_,.bx (by rw[List.length_set];exact fp.trans hb) hg hf ht dx hz (by rw[List.length_set];exact hl) Wk ZW (fun p hp=>?_) ZX,?_⟩
   ·simp only[List.mem_singleton]at hp;subst hp;exact⟨by rw[List.length_set];exact o3,by rw[←hv.len];exact o4⟩
   ·refine List.Perm.cons _ ?_;have p1:(T1++(T4++T3)).Perm (S1++(S4++S3)):=by
     rw[q1];exact List.Perm.append_left T1 ((by simpa using l2:T4.Perm T2).append_right T3)
    refine p1.trans ((List.Perm.append_left S1 (k2.append_right S3)).trans ?_);show List.Perm _ ((S1++(S2++S3))++U.flatMap S);simp only[List.append_assoc];exact(List.perm_append_comm.append_left _).append_left _
theorem Ar:∀{l:List Nat},Ci l=true→l.Nodup
 |[],_=>List.nodup_nil
 |n::l,h=>by
  simp only[Ci,Bool.and_eq_true,Bool.not_eq_true',List.contains_eq_mem,decide_eq_false_iff_not]at h;exact List.nodup_cons.2 ⟨h.1,Ar h.2⟩
theorem KH {U:List Nat} (h:mh ids U=true):U.Nodup∧∀u∈U,∀k:Nat,ids[k]? ≠some (some u):=by
 simp only[mh,Bool.and_eq_true,List.all_eq_true,Bool.not_eq_true',List.contains_eq_mem,decide_eq_false_iff_not]at h;exact⟨Ar h.1,fun u hu k hk=>h.2 u hu (List.mem_of_getElem? hk)⟩
theorem I2.Wl (_:Mem X ρ F o c h) {S:Nat→Ft} (_:MO X ρ F o c h S) {U:List Nat} {o1:Ob} (L:I2 ids o U o1):U.Nodup→∃Un:Nat→List Nat,(∀n,∀u∈Un n,u∈U)∧(∀n,(Un n).Nodup)∧(∀n1 n2 u,u∈Un n1→u∈Un n2→n1=n2)∧∀n y,look o1 n=some y→Ch ids o (Un n) (Cg ids o n) y:=by
 induction L with
 |nil=>intro _;exact⟨fun _=>[],by simp,by simp,by simp,fun n y hl=>by cases hl⟩
 |cons hT _ ih=>
  rename_i U1 U2 m y l _;intro oQ;obtain⟨n1,n2,n3⟩:=List.nodup_append.1 oQ;obtain⟨Un,k1,k2,k3,k4⟩:=ih n2;refine⟨fun n=>if n=m then U1 else Un n,fun n u hu=>?_,fun n=>?_,fun a b u ha hb=>?_,fun n y' hl=>?_⟩
  ·by_cases e:n=m
   ·simp only[e,if_true]at hu;exact List.mem_append_left _ hu
   ·simp only[e,if_false]at hu;exact List.mem_append_right _ (k1 n u hu)
  ·by_cases e:n=m
   ·simp only[e,if_true];exact n1
   ·simp only[e,if_false];exact k2 n
  ·by_cases ea:a=m<;>by_cases eb:b=m
   ·rw[ea,eb]
   ·simp only[ea,if_true]at ha;simp only[eb,if_false]at hb;exact absurd rfl (n3 u ha u (k1 b u hb))
   ·simp only[ea,if_false]at ha;simp only[eb,if_true]at hb;exact absurd rfl (n3 u hb u (k1 a u ha))
   ·simp only[ea,if_false]at ha;simp only[eb,if_false]at hb;exact k3 a b u ha hb
  ·rw[aN]at hl;by_cases e:m=n
   ·rw[if_pos e]at hl;cases hl;subst e;simpa using hT
   ·rw[if_neg e]at hl;have:¬n=m:=fun e'=>e e'.symm;simp only[this,if_false];exact k4 n y' hl
structure Told (X:Cx) (ρ:Gh) (F:Nat→Prop) (o:Ob) (h:ab) (S:Nat→Ft) (ids:List (Option Nat)) (U:List Nat) (o1:Ob) (S1:Nat→Ft) (Ns:Nat→List Nat):Prop where
 b7:∀n y,look o1 n=some y→OR ids.length (fq ids (G8 o1) ρ) F h X.base n (S1 n) y
 perm:∀n y,look o1 n=some y→(S1 n).Perm ((Ns n).flatMap S)
 Cm:∀n y,look o1 n=some y→(Ns n).Nodup
 gh:∀n y u,look o1 n=some y→u∈Ns n→∃y,look o u=some y
 ZY:∀n y u,look o1 n=some y→u∈Ns n→ids[n]? =some (some u)∨u∈U
 one:∀n1 n2 y1 y2 u,look o1 n1=some y1→look o1 n2=some y2→u∈Ns n1→u∈Ns n2→n1=n2
open Classical in
open Classical in
theorem I2.told (H:Mem X ρ F o c h) {S:Nat→Ft} (K:MO X ρ F o c h S) {U:List Nat} {o1:Ob} (L:I2 ids o U o1) (hi:iL c ids=true) (hU:mh ids U=true):∃S1 Ns,Told X ρ F o h S ids U o1 S1 Ns:=by
 obtain⟨u1,u2⟩:=KH hU;obtain⟨Un,k1,k2,k3,k4⟩:=L.Wl H K u1;have each:∀n,∃(S1:Ft) (N:List Nat),∀y,look o1 n=some y→OR ids.length (fq ids (G8 o1) ρ) F h X.base n S1 y∧S1.Perm (N.flatMap S)∧N.Nodup∧(∀u∈N,∃y,look o u=some y)∧∀u∈N,ids[n]? =some (some u)∨u∈Un n:=by
  intro n;cases hl:look o1 n with
  |none=>exact⟨[],[],fun y hy=>by cases hy⟩
  |some y=>
   obtain⟨S1,h1,h2,h3⟩:=(k4 n y hl).rel (zf:=G8 o1) H K rfl (by simp[G8,hl]);rcases h2 with⟨m,q1,q2,q3⟩|⟨rfl,q2⟩
   ·refine⟨S1,m::Un n,fun y' ZZ=>?_⟩;cases ZZ;refine⟨h1,q3,List.nodup_cons.2 ⟨fun hm=>u2 m (k1 n m hm) n q1,k2 n⟩,fun u hu=>?_,fun u hu=>?_⟩
    ·rcases List.mem_cons.1 hu with rfl |hu
     ·exact q2
     ·exact h3 u hu
    ·rcases List.mem_cons.1 hu with rfl |hu
     ·exact .inl q1
     ·exact .inr hu
   ·exact⟨[],[],fun y' ZZ=>by cases ZZ;exact⟨h1,by simp,by simp,by simp,by simp⟩⟩
 refine⟨fun n=>Classical.choose (each n),fun n=>Classical.choose (Classical.choose_spec (each n)),?_⟩;have sp:=fun n y (hl:look o1 n=some y)=>Classical.choose_spec (Classical.choose_spec (each n)) y hl;refine⟨fun n y hl=>(sp n y hl).1,fun n y hl=>(sp n y hl).2.1,fun n y hl=>(sp n y hl).2.2.1,fun n y u hl hu=>(sp n y hl).2.2.2.1 u hu,fun n y u hl hu=>((sp n y hl).2.2.2.2 u hu).imp id (k1 n u),fun a b y1 y2 u hla hlb ha hb=>?_⟩;rcases(sp a y1 hla).2.2.2.2 u ha with p|p<;>rcases(sp b y2 hlb).2.2.2.2 u hb with q|q
 ·exact mR hi p q
 ·exact absurd p (u2 u (k1 b u q) a)
 ·exact absurd q (u2 u (k1 a u p) b)
 ·exact k3 a b u p q
theorem Eh {S:Nat→Ft} {N:List Nat} {x:Nat}:x∈dk (N.flatMap S)↔∃u∈N,x∈dk (S u):=by
 unfold dk;simp only[List.mem_map,List.mem_flatMap];constructor
 ·rintro⟨p,⟨u,h1,h2⟩,h3⟩;exact⟨u,h1,p,h2,h3⟩
 ·rintro⟨u,h1,p,h2,h3⟩;exact⟨p,⟨u,h1,h2⟩,h3⟩
theorem MO.xG {S:Nat→Ft} (K:MO X ρ F o c h S):∀{N:List Nat},N.Nodup→(∀u∈N,∃y,look o u=some y)→(dk (N.flatMap S)).Nodup
 |[],_,_=>by simp[dk]
 |u::N,hn,hd=>by
  obtain⟨h1,h2⟩:=List.nodup_cons.1 hn;obtain⟨y,hy⟩:=hd u List.mem_cons_self;rw[List.flatMap_cons,p4];refine List.nodup_append.2 ⟨K.Cm u y hy,K.xG h2 fun v hv=>hd v (List.mem_cons_of_mem _ hv),fun a ha b hb e=>?_⟩;subst e;obtain⟨v,hv,hx⟩:=Eh.1 hb;obtain⟨y',ZZ⟩:=hd v (List.mem_cons_of_mem _ hv);have:=K.fg u v y y' a hy ZZ ha hx;subst this;exact h1 hv
section
variable {S S1:Nat→Ft} {U:List Nat} {o1:Ob} {Ns:Nat→List Nat}
theorem Told.mem (D:Told X ρ F o h S ids U o1 S1 Ns) {n:Nat} {y:TO} (hl:look o1 n=some y) {x:Nat}:x∈dk (S1 n)↔∃u∈Ns n,x∈dk (S u):=by
 rw[←Eh];exact((D.perm n y hl).map _).mem_iff
theorem Told.Z0 (D:Told X ρ F o h S ids U o1 S1 Ns) (K:MO X ρ F o c h S) {n:Nat} {y:TO} (hl:look o1 n=some y):(dk (S1 n)).Nodup:=
 ((D.perm n y hl).map _).nodup_iff.2 (K.xG (D.Cm n y hl) fun u hu=>D.gh n y u hl hu)
theorem Told.fg (D:Told X ρ F o h S ids U o1 S1 Ns) (K:MO X ρ F o c h S) {n1 n2:Nat} {y1 y2:TO} {x:Nat} (h1:look o1 n1=some y1) (h2:look o1 n2=some y2) (k1:x∈dk (S1 n1)) (k2:x∈dk (S1 n2)):n1=n2:=by
 obtain⟨u,a1,a2⟩:=(D.mem h1).1 k1;obtain⟨v,b1,b2⟩:=(D.mem h2).1 k2;obtain⟨_,c1⟩:=D.gh _ _ _ h1 a1;obtain⟨_,c2⟩:=D.gh _ _ _ h2 b1;have:=K.fg u v _ _ x c1 c2 a2 b2;subst this;exact D.one _ _ _ _ _ h1 h2 a1 b1
theorem Told.eT (D:Told X ρ F o h S ids U o1 S1 Ns) (K:MO X ρ F o c h S) {n:Nat} {y:TO} {x:Nat} (hl:look o1 n=some y) (k:x∈dk (S1 n)):X.base≤x∧x<h.size∧(X.M x∨X.h0.size≤x):=by
 obtain⟨u,a1,a2⟩:=(D.mem hl).1 k;obtain⟨_,c1⟩:=D.gh _ _ _ hl a1;exact K.eT u _ x c1 a2
theorem Told.apart (D:Told X ρ F o h S ids U o1 S1 Ns) (K:MO X ρ F o c h S) {n:Nat} {y:TO} {x b:Nat} (hl:look o1 n=some y) (k:(x,true)∈S1 n) (hb:F b):hd h b≠x:=by
 have:=(D.perm n y hl).mem_iff.1 k;obtain⟨u,a1,a2⟩:=List.mem_flatMap.1 this;obtain⟨_,c1⟩:=D.gh _ _ _ hl a1;exact K.apart u _ x b c1 a2 hb
end
theorem xH (_:∀n l,ρ n=some l→n<c) {o1:Ob} {n:Nat} {l:Loc} (h:fq ids (G8 o1) ρ n=some l):n<ids.length:=by
 unfold fq at h;cases hq:ids[n]? with
 |none=>rw[hq]at h;cases h
 |some q=>exact rO hq
theorem Mem.le (H:Mem X ρ F o c h) {U:List Nat} {o1:Ob} (hi:iL c ids=true) (hp:ph X.c0 0 ids=true) (hU:mh ids U=true) (hO:I2 ids o U o1):
 Mem X (fq ids (G8 o1) ρ) F o1 ids.length h:=by
 obtain⟨S,K⟩:=H.ex;obtain⟨S1,Ns,D⟩:=hO.told H K hi hU;have pre:=Aq hp;refine⟨⟨S1,D.b7,fun n y hl=>D.Z0 K hl,fun n1 n2 y1 y2 x h1 h2=>D.fg K h1 h2,fun n y x hl=>D.eT K hl,fun n y x b hl=>D.apart K hl⟩,fun n l hn=>xH H.names hn,H.frozen,H.F0,H.wf,H.oH,H.l5,H.Co,?_,fun k l hk hl=>?_,fun k b hk hb=>?_⟩
 ·rcases Nat.lt_or_ge ids.length X.c0 with h1|h1
  ·have:=rO (pre ids.length h1);omega
  ·exact h1
 ·have:=pre k hk;rw[Nat.zero_add]at this;exact H.zJ.2.1 k l hk (by simpa[fq,this]using hl)
 ·have:=pre k hk;rw[Nat.zero_add]at this;simp only[fq,this];exact H.zJ.2.2 k b hk hb
theorem Mem.ck (sh:List Nat):∀{F:Nat→Prop} {o:Ob},Mem X ρ F o c h→∃F',Mem X ρ F' (M.ck sh o) c h∧(∀t v,VR c ρ F h t v→VR c ρ F' h t v)∧(∀b,F b→F' b):=by
 induction sh with
 |nil=>intro F o H;exact⟨F,H,fun _ _ h=>h,fun _ h=>h⟩
 |cons m sh ih=>
  intro F o H;obtain⟨F1,H1,m1,f1,_⟩:=H.share m;obtain⟨F2,H2,m2,f2⟩:=ih H1;exact⟨F2,H2,fun t v h=>m2 t v (m1 t v h),fun b h=>f2 b (f1 b h)⟩
end
def mi (S:Nat→Ft) (o:Ob):Nat→Prop:=fun x=>∃k y,look o k=some y∧x∈dk (S k)
def zy (base:Nat) (ρ:Gh) (F:Nat→Prop) (o:Ob) (c:Nat) (h:ab) (S:Nat→Ft):Cx:=⟨base,h,mi S o,F,c,ρ⟩
def kW (T:Env) (F:Nat→Prop) (h:ab):Prop:=∀g cs,T.wg g=some cs→F g∧h.rd g=some cs∧True
def G9 (T:Env) (X:Cx):Prop:=kW T X.F0 X.h0
theorem G9.now {T:Env} {X:Cx} {ρ:Gh} {F:Nat→Prop} {o:Ob} {c:Nat} {h:ab} (N:G9 T X) (H:Mem X ρ F o c h):kW T F h:=fun g cs hg=>
 let⟨n1,n2,n3⟩:=N g cs hg
 ⟨H.F0 g n1,(H.oH.cZ g n1).trans n2,n3⟩
def VC (E:Env):MU:=fun g c args o R=>
 ∀(base:Nat) (ρ:Gh) (F:Nat→Prop) (h:ab) (S:Nat→Ft) (dX:List Value),kW E F h→Mem (zy base ρ F o c h S) ρ F o c h→MO (zy base ρ F o c h S) ρ F o c h S→dI c ρ F h args dX→
  ∃n v h' ρ' F' r o' c',fK E base n g dX h=some (v,h')∧R r o' c'∧Mem (zy base ρ F o c h S) ρ' F' o' c' h'∧VR c' ρ' F' h' r v
theorem Evo.refl (M F0:Nat→Prop) (h:ab):Evo M F0 h h:=⟨Nat.le_refl _,fun _ _ _=>rfl,fun _ _=>rfl,fun _ _=>rfl⟩
section
variable {X:Cx} {ρ:Gh} {F:Nat→Prop} {o:Ob} {c:Nat} {h:ab} {ids:List (Option Nat)}
theorem Mem.hand (H:Mem X ρ F o c h) {S S1:Nat→Ft} {U:List Nat} {Ns:Nat→List Nat} (K:MO X ρ F o c h S) {o0:Ob} (D:Told X ρ F o h S ids U o0 S1 Ns):
 Mem (zy X.base (fq ids (G8 o0) ρ) F o0 ids.length h S1) (fq ids (G8 o0) ρ) F o0 ids.length h∧MO (zy X.base (fq ids (G8 o0) ρ) F o0 ids.length h S1) (fq ids (G8 o0) ρ) F o0 ids.length h S1:=by
 have M:MO (zy X.base (fq ids (G8 o0) ρ) F o0 ids.length h S1) (fq ids (G8 o0) ρ) F o0 ids.length h S1:=
  ⟨D.b7,fun n y hl=>D.Z0 K hl,fun n1 n2 y1 y2 x h1 h2=>D.fg K h1 h2,fun n y x hl hx=>⟨(D.eT K hl hx).1,(D.eT K hl hx).2.1,.inl ⟨n,y,hl,hx⟩⟩,fun n y x b hl=>D.apart K hl⟩
 exact⟨⟨⟨S1,M⟩,fun n l hn=>xH H.names hn,H.frozen,fun _ hb=>hb,H.wf,.refl _ _ _,H.l5,fun _ hb=>.inl hb,Nat.le_refl _,fun _ _ _ hl=>hl,fun _ _ _ hb=>hb⟩,M⟩
open Classical in
noncomputable def qy (ids:List (Option Nat)) (c:Nat) (ρ ρ':Gh):Gh:=fun n=>
 if hx:∃k:Nat,ids[k]? =some (some n)then ρ' (Classical.choose hx)else if n<c then ρ n else if(∃m:Nat,ids[n - c]? =some (some m))then none else ρ' (n - c)
theorem Ha {ρ':Gh} (hi:iL c ids=true) {k m:Nat} (hk:ids[k]? =some (some m)):qy ids c ρ ρ' m=ρ' k:=by
 unfold qy;have hx:∃k:Nat,ids[k]? =some (some m):=⟨k,hk⟩;rw[dif_pos hx,mR hi (Classical.choose_spec hx) hk]
theorem wv {ρ':Gh} {n:Nat} (hn:∀k:Nat,ids[k]? ≠some (some n)) (hc:n<c):qy ids c ρ ρ' n=ρ n:=by
 unfold qy;rw[dif_neg (fun⟨k,hk⟩=>hn k hk),if_pos hc]
theorem N9 {ρ':Gh} (hi:iL c ids=true) (k:Nat):qy ids c ρ ρ' (back ids c k)=ρ' k:=by
 unfold back;split
 ·rename_i m hm;exact Ha hi hm
 ·rename_i vh;unfold qy;rw[dif_neg,if_neg om,if_neg,Nat.add_sub_cancel_left]
  ·rintro⟨m,hm⟩;rw[Nat.add_sub_cancel_left]at hm;exact vh m hm
  ·rintro⟨k',pd⟩;have:=kV hi pd;omega
theorem xI (hi:iL c ids=true) {k k':Nat} (h:back ids c k=back ids c k'):k=k':=by
 unfold back at h;split at h
 ·rename_i m hm;split at h
  ·rename_i m' QY;subst h;exact mR hi hm QY
  ·have:=kV hi hm;omega
 ·split at h
  ·rename_i m' QY;have:=kV hi QY;omega
  ·omega
theorem Rx (hi:iL c ids=true) {k c':Nat} (hk:k<c'):back ids c k<c+c':=by
 unfold back;split
 ·rename_i m hm;have:=kV hi hm;omega
 ·omega
theorem mS (β:Nat→Nat):∀(l:List TV) (i:Nat),(TV.gR β l)[i]? =(l[i]?).map (TV.mg β)
 |[],i=>by simp[TV.gR]
 |v::l,i=>by
  cases i with
  |zero=>simp[TV.gR]
  |succ i=>simp[TV.gR,mS β l i]
theorem fW (β:Nat→Nat):∀(l:List TV),(TV.gR β l).length=l.length
 |[]=>rfl
 |v::l=>by simp[TV.gR,fW β l]
theorem VR.mg {c' cc:Nat} {ρ' MW:Gh} {F':Nat→Prop} {h':ab} {β:Nat→Nat} (Ct:∀k,k<c'→β k<cc) (fp:∀k,MW (β k)=ρ' k) {t:TV} {x:Value} (H:VR c' ρ' F' h' t x):VR cc MW F' h' (t.mg β) x:=by
 induction H with
 |j v=>exact .j v
 |s hp=>exact .s hp
 |nil he=>exact .nil he
 |sl h1 h2 h3 h4 h5 h6 h7 h8 h9 hc _=>exact .sl h1 h2 h3 h4 h5 h6 h7 h8 h9 fun i j e t v q1 q2 q3=>(hc i j e t v q1 q2 q3).dN (h9 e (List.mem_of_getElem? q1) t (List.mem_of_getElem? q2))
 |tk hn p5 ha h0=>exact .tk (Ct _ hn) p5 (fun b z len hx=>ha b z len (by rw[←fp];exact hx)) (fun z hx=>h0 z (by rw[←fp];exact hx))
 |ptr hb=>exact .ptr (by rw[fp];exact hb)
 |ep h1 h2 h3 h4 hc _=>exact .ep h1 h2 h3 h4 fun j t v q1 q2=>(hc j t v q1 q2).dN (h4 t (List.mem_of_getElem? q1))
 |wp hn p5 ha h0=>exact .wp (Ct _ hn) p5 (fun b z len hx=>ha b z len (by rw[←fp];exact hx)) (fun z hx=>h0 z (by rw[←fp];exact hx))
 |mp hb=>exact .mp (by rw[fp];exact hb)
 |bg hb=>exact .bg (by rw[fp];exact hb)
 |sv hn p5 ha h0=>exact .sv (Ct _ hn) p5 (fun b z len hx=>ha b z len (by rw[←fp];exact hx)) (fun z hx=>h0 z (by rw[←fp];exact hx))
 |pv hn p5 ha h0=>exact .pv (Ct _ hn) p5 (fun b z len hx=>ha b z len (by rw[←fp];exact hx)) (fun z hx=>h0 z (by rw[←fp];exact hx))
 |agg hs _ ih=>
  refine .agg (by rw[fW];exact hs) fun i t v q1 q2=>?_;rw[mS,Option.map_eq_some_iff]at q1;obtain⟨t0,q3,rfl⟩:=q1;exact ih i t0 v q3 q2
 |dF hs _ ih=>
  refine .dF (by rw[fW];exact hs) fun i t v q1 q2=>?_;rw[mS,Option.map_eq_some_iff]at q1;obtain⟨t0,q3,rfl⟩:=q1;exact ih i t0 v q3 q2
 |nq _ ih=>exact .nq ih
 |cH hs _ ht _ BI BJ=>
  refine .cH (by rw[fW];exact hs) (fun i t v q1 q2=>?_) (by rw[fW];exact ht) (fun i t v q1 q2=>?_)
  ·rw[mS,Option.map_eq_some_iff]at q1;obtain⟨t0,q3,rfl⟩:=q1;exact BI i t0 v q3 q2
  ·rw[mS,Option.map_eq_some_iff]at q1;obtain⟨t0,q3,rfl⟩:=q1;exact BJ i t0 v q3 q2
theorem dI.mg {c' cc:Nat} {ρ' MW:Gh} {F':Nat→Prop} {h':ab} {β:Nat→Nat} (Ct:∀k,k<c'→β k<cc) (fp:∀k,MW (β k)=ρ' k) {l:List TV} {m:List Value} (H:dI c' ρ' F' h' l m):dI cc MW F' h' (TV.gR β l) m:=by
 refine⟨by rw[fW];exact H.1,fun i t v q1 q2=>?_⟩;rw[mS,Option.map_eq_some_iff]at q1;obtain⟨t0,q3,rfl⟩:=q1;exact(H.2 i t0 v q3 q2).mg Ct fp
theorem Oa (β:Nat→Nat) {t:TV} (hf:fz t=true):t.mg β=t:=by
 unfold fz at hf;split at hf<;>first|rfl |(simp[TV.mg];done)|(simp[TV.mg,TV.gR];done)|cases hf
theorem Oc (β:Nat→Nat) {t:TV} (hf:mD t=true):t.mg β=t:=by
 unfold mD at hf;split at hf
 ·simp[TV.mg]
 ·exact Oa β hf
theorem xJ (β:Nat→Nat):∀{l:List TV},(∀t∈l,mD t=true)→TV.gR β l=l
 |[],_=>rfl
 |t::l,h=>by simp only[TV.gR];rw[Oc β (h t List.mem_cons_self),xJ β fun t ht=>h t (List.mem_cons_of_mem _ ht)]
theorem Ei (β:Nat→Nat) (a b:List TV):TV.gR β (a++b)=TV.gR β a++TV.gR β b:=by
 induction a with
 |nil=>rfl
 |cons t l ih=>simp[TV.gR,ih]
theorem Cu (β:Nat→Nat) (l:List (List TV)):TV.gR β l.flatten=(l.map (TV.gR β)).flatten:=by
 induction l with
 |nil=>rfl
 |cons t l ih=>simp[Ei,ih]
theorem Ej (β:Nat→Nat) {es:List (List TV)} (bT:∀e∈es,∀t∈e,mD t=true):∀op,cD es (xB β op)=(cD es op).map (TV.gR β)
 |[]=>by
  show es=es.map (TV.gR β);refine List.ext_getElem? fun i=>?_;rw[List.getElem?_map];cases he:es[i]? with
  |none=>rfl
  |some e=>simp[xJ β (bT e (List.mem_of_getElem? he))]
 |p::l=>by
  show(cD es (xB β l)).set p.1 (TV.gR β p.2)=((cD es l).set p.1 p.2).map (TV.gR β);rw[Ej β bT l,List.map_set]
theorem Ek (f:TV→TV) (k:Value) (v:TV):∀es:List (Value×TV),(dG es k v).map (fun e=>(e.1,f e.2))=dG (es.map fun e=>(e.1,f e.2)) k (f v)
 |[]=>rfl
 |e::es=>by
  simp only[dG,List.map_cons];cases qI k e.1 with
  |true=>rfl
  |false=>simp[Ek f k v es]
theorem As (β:Nat→Nat) (v:TV):aF (v.mg β)=TV.gR β (aF v)∧di (v.mg β)=di v:=by
 cases v<;>simp[TV.mg,aF,di,TV.gR]
theorem Ry (β:Nat→Nat) {v:TV} (h:∀t∈aF v,mD t=true):v.mg β=v:=by
 cases v with
 |agg cs=>
  have e:TV.gR β cs=cs:=xJ β h;simp only[TV.mg,e]
 |_=>exact Oc β (h _ (by simp[aF]))
theorem Jd (β:Nat→Nat) {es:List (Value×TV)} (bT:∀e∈es,∀t∈aF e.2,mD t=true):∀op,Kw es (I3 β op)=(Kw es op).map fun e=>(e.1,e.2.mg β)
 |[]=>by
  show es=es.map fun e=>(e.1,e.2.mg β);refine List.ext_getElem? fun i=>?_;rw[List.getElem?_map];cases he:es[i]? with
  |none=>rfl
  |some e=>simp[Ry β (bT e (List.mem_of_getElem? he))]
 |p::l=>by
  show dG (Kw es (I3 β l)) p.1 (p.2.mg β)=(dG (Kw es l) p.1 p.2).map fun e=>(e.1,e.2.mg β);rw[Jd β bT l,Ek]
section
variable {c' cc:Nat} {ρ' MW:Gh} {F':Nat→Prop} {h':ab} {β:Nat→Nat} {base:Nat} {S:Ft}
theorem cI.mg (Ct:∀k,k<c'→β k<cc) (fp:∀k,MW (β k)=ρ' k) {l:List TV} {m:List Value} (H:cI c' ρ' F' h' base S l m):cI cc MW F' h' base S (TV.gR β l) m:=by
 induction H with
 |nil=>exact .nil
 |vr hv _ ih=>exact .vr (hv.mg Ct fp) ih
 |cl hv _ ih=>
  rename_i t v l m _;have:t.mg β=t:=by
   cases hv with
   |fz hf _=>exact Oa β hf
   |own=>simp[TV.mg]
  simp only[TV.gR];rw[this];exact .cl hv ih
theorem iN.mg (Ct:∀k,k<c'→β k<cc) (fp:∀k,MW (β k)=ρ' k) {kd:Nat} {l:List (Value×TV)} {m:List MapEntry} (H:iN c' ρ' F' h' base kd S l m):iN cc MW F' h' base kd S (l.map fun e=>(e.1,e.2.mg β)) m:=by
 induction H with
 |nil=>exact .nil
 |cons hk iH ha hv _ ih=>
  exact .cons hk iH ((As β _).2.trans ha) (by rw[(As β _).1];exact hv.mg Ct fp) ih
theorem OR.mg {k:Nat} (Ct:∀k,k<c'→β k<cc) (fp:∀k,MW (β k)=ρ' k) {y:TO} (H:OR c' ρ' F' h' base k S y):OR cc MW F' h' base (β k) S (y.mg β):=by
 cases H with
 |cells hb hg ht hc=>exact .cells ((fp k).trans hb) hg ht (hc.mg Ct fp)
 |map hb hg hl hc bW=>exact .map ((fp k).trans hb) hg hl (fun i e e' q1 q2=>let⟨r1,r2,r3,r4⟩:=hc i e e' q1 q2;⟨r1,r2,r3,r4.wu r3⟩) bW
 |nil hb hz=>exact .nil ((fp k).trans hb) hz
 |arr hb hg hf ht dx hz hlen he gK hc hF=>exact .arr ((fp k).trans hb) hg hf ht dx hz hlen he gK (fun i j e t v q1 q2 q3=>(hc i j e t v q1 q2 q3).dN (gK e (List.mem_of_getElem? q1) t (List.mem_of_getElem? q2))) hF
 |gF hb hz=>exact .gF ((fp k).trans hb) hz
 |bx hb hg hf ht dx hz hlen he bT jA hc=>
  refine .bx ((fp k).trans hb) hg hf ht dx hz hlen he bT (fun p hp=>?_) (by rw[Ej β bT,←Cu];exact hc.mg Ct fp);have key:∀op:List (Nat×List TV),p∈xB β op→∃q∈op,p.1=q.1∧p.2.length=q.2.length:=by
   intro op
   induction op with
   |nil=>intro h;simp[xB]at h
   |cons q l ih=>
    intro h;simp only[xB,List.mem_cons]at h;rcases h with rfl |h
    ·exact⟨q,List.mem_cons_self,rfl,fW β _⟩
    ·obtain⟨q',h1,h2⟩:=ih h;exact⟨q',List.mem_cons_of_mem _ h1,h2⟩
  obtain⟨q,h1,h2,h3⟩:=key _ hp;rw[h2,h3];exact jA q h1
 |eL hb hg bT hc bW=>exact .eL ((fp k).trans hb) hg bT (by rw[Jd β bT];exact hc.mg Ct fp) bW
 |gZ hb hg=>exact .gZ ((fp k).trans hb) hg
end
theorem ur {β:Nat→Nat} (Ct:∀k k',β k=β k'→k=k'):∀{o:Ob} {n:Nat} {y:TO},look (G4 β o) n=some y→∃k y0,n=β k∧look o k=some y0∧y=y0.mg β
 |[],n,y,h=>by cases h
 |p::l,n,y,h=>by
  simp only[G4]at h;rw[aN]at h;split at h
  ·rename_i e;cases h;exact⟨p.1,p.2,e.symm,by rw[aN,if_pos rfl],rfl⟩
  ·rename_i e;obtain⟨k,y0,rfl,h2,h3⟩:=ur Ct h;refine⟨k,y0,rfl,?_,h3⟩;rw[aN,if_neg (fun e2=>e (by rw[e2]))];exact h2
theorem nT:∀{ids:List (Option Nat)} {o:Ob} {n:Nat} {y:TO},look (ku ids o) n=some y→look o n=some y∧∀k:Nat,ids[k]? ≠some (some n)
 |[],o,n,y,h=>⟨h,fun k=>by simp⟩
 |none::l,o,n,y,h=>by
  obtain⟨h1,h2⟩:=nT (ids:=l) h;refine⟨h1,fun k=>?_⟩;cases k with
  |zero=>simp
  |succ k=>simpa using h2 k
 |some m::l,o,n,y,h=>by
  obtain⟨h1,h2⟩:=nT (ids:=l) h;rw[dz]at h1;by_cases e:n=m
  ·rw[if_pos e]at h1;cases h1
  ·rw[if_neg e]at h1;refine⟨h1,fun k=>?_⟩;cases k with
   |zero=>simp;exact fun e2=>e e2.symm
   |succ k=>simpa using h2 k
theorem xK:∀{U:List Nat} {o:Ob} {n:Nat} {y:TO},look (vn U o) n=some y→look o n=some y∧n∉U
 |[],o,n,y,h=>⟨h,by simp⟩
 |m::l,o,n,y,h=>by
  obtain⟨h1,h2⟩:=xK (U:=l) h;rw[dz]at h1;by_cases e:n=m
  ·rw[if_pos e]at h1;cases h1
  ·rw[if_neg e]at h1;exact⟨h1,by simp[e,h2]⟩
open Classical in
theorem Mem.merge (H:Mem X ρ F o c h) {S S1:Nat→Ft} {U:List Nat} {Ns:Nat→List Nat} (K0:MO X ρ F o c h S) {o0:Ob} (hi:iL c ids=true) (D:Told X ρ F o h S ids U o0 S1 Ns) {ρ':Gh} {F':Nat→Prop} {o':Ob} {c':Nat} {h':ab}
 (K:Mem (zy X.base (fq ids (G8 o0) ρ) F o0 ids.length h S1) ρ' F' o' c' h'):
 Mem X (qy ids c ρ ρ') F' (G4 (back ids c) o'++vn U (ku ids o)) (c+c') h'∧(∀t v,VR c ρ F h t v→VR (c+c') (qy ids c ρ ρ') F' h' t v)∧(∀t v,VR c' ρ' F' h' t v→VR (c+c') (qy ids c ρ ρ') F' h' (t.mg (back ids c)) v)∧
  ∀n y,look o n=some y→(∀k:Nat,ids[k]? ≠some (some n))→n∉U→∀x∈dk (S n),¬mi S1 o0 x:=by
 obtain⟨S',KO⟩:=K.ex;have hA:∀n l,n<c→qy ids c ρ ρ' n=some l→ρ n=some l:=fun n l hn hl=>by
  by_cases hx:∃k:Nat,ids[k]? =some (some n)
  ·obtain⟨k,hk⟩:=hx;rw[Ha hi hk]at hl;have:=K.zJ.2.1 k l (rO hk) hl;simpa[zy,fq,hk]using this
  ·rwa [wv (fun k hk=>hx ⟨k,hk⟩) hn]at hl
 have hB:∀n b,ρ n=some (.dw b)→qy ids c ρ ρ' n=some (.dw b):=fun n b hb=>by
  by_cases hx:∃k:Nat,ids[k]? =some (some n)
  ·obtain⟨k,hk⟩:=hx;rw[Ha hi hk];exact K.zJ.2.2 k b (rO hk) (by simpa[zy,fq,hk]using hb)
  ·rw[wv (fun k hk=>hx ⟨k,hk⟩) (H.names _ _ hb)];exact hb
 have Ct:=fun k (hk:k<c')=>Rx hi hk;have fp:=fun k=>N9 (ρ:=ρ) (ρ':=ρ') hi k;have cZ:∀b cs,F b→h.rd b=some cs→h'.rd b=some cs:=fun b cs hb hr=>by rw[K.oH.cZ b hb];exact hr
 have qK:∀b,F b→F' b:=fun b hb=>K.F0 b hb;have hm:∀t v,VR c ρ F h t v→VR (c+c') (qy ids c ρ ρ') F' h' t v:=fun t v=>VR.mono om hA hB qK cZ;have fL:h.size≤h'.size:=K.oH.size
 -- families that the call may have changed
 have hM:∀x,mi S1 o0 x→∃(u:Nat) (y:TO),((∃k:Nat,ids[k]? =some (some u))∨u∈U)∧look o u=some y∧x∈dk (S u):=by
  rintro x ⟨k,y,hl,hh⟩;obtain⟨u,h1,h2⟩:=(D.mem hl).1 hh;obtain⟨y',h3⟩:=D.gh _ _ _ hl h1;exact⟨u,y',(D.ZY _ _ _ hl h1).imp (fun h=>⟨_,h⟩) id,h3,h2⟩
 have hMX:∀x,mi S1 o0 x→X.M x∨X.h0.size≤x:=fun x hx=>by
  obtain⟨u,y,_,h2,h3⟩:=hM x hx;exact(K0.eT u y x h2 h3).2.2
 have same:∀b,b<h.size→¬mi S1 o0 (hd h b)→h'.get b=h.get b:=fun b hb hx=>K.oH.bl b hb hx;have out:∀n y,look o n=some y→(∀k:Nat,ids[k]? ≠some (some n))→n∉U→∀x∈dk (S n),¬mi S1 o0 x:=by
  intro n y hl h1 h2 x hx hy;obtain⟨u,y',q1,q2,q3⟩:=hM x hy;have:=K0.fg n u y y' x hl q2 hx q3;subst this;rcases q1 with⟨k,q1⟩|q1
  ·exact h1 k q1
  ·exact h2 q1
 let S2:Nat→Ft:=fun n=>if hx:∃k y0,n=back ids c k∧look o' k=some y0 then S' (Classical.choose hx)else S n
 have s2a:∀k y0,look o' k=some y0→S2 (back ids c k)=S' k:=fun k y0 hl=>by
  have hx:∃k' y0,back ids c k=back ids c k'∧look o' k'=some y0:=⟨k,y0,rfl,hl⟩;simp only[S2];rw[dif_pos hx];obtain⟨_,h1,_⟩:=Classical.choose_spec hx;rw[xI hi h1.symm]
 have lr:∀n y,look (G4 (back ids c) o'++vn U (ku ids o)) n=some y→
  (∃k y0,n=back ids c k∧look o' k=some y0∧y=y0.mg (back ids c)∧S2 n=S' k)∨
  (look o n=some y∧(∀k:Nat,ids[k]? ≠some (some n))∧n∉U∧S2 n=S n):=by
  intro n y hl;rw[jL]at hl;split at hl
  ·rename_i y1 h1;cases hl;obtain⟨k,y0,rfl,h2,rfl⟩:=ur (fun k k'=>xI hi) h1;exact .inl ⟨k,y0,rfl,h2,rfl,s2a k y0 h2⟩
  ·rename_i vh;obtain⟨h1,h2⟩:=xK hl;obtain⟨h3,h4⟩:=nT h1;refine .inr ⟨h3,h4,h2,?_⟩;simp only[S2];rw[dif_neg];rintro⟨k,y0,rfl,hk⟩;have Gj:=H.lt h3;unfold back at h4 Gj;split at Gj
   ·rename_i m hm;rw[hm]at h4;exact h4 k hm
   ·omega
 have old:∀n y,look o n=some y→(∀k:Nat,ids[k]? ≠some (some n))→n∉U→OR (c+c') (qy ids c ρ ρ') F' h' X.base n (S n) y:=fun n y hl h1 h2=>
  (K0.b7 n y hl).bl (T:=mi S1 o0) H.wf same (out n y hl h1 h2) qK cZ hm (wv h1 (H.lt hl))
 -- a family of the call's is none of the others
 have apart:∀k y0 x,look o' k=some y0→x∈dk (S' k)→mi S1 o0 x∨h.size≤x:=fun k y0 x hl hh=>(KO.eT k y0 x hl hh).2.2;refine⟨⟨⟨S2,fun n y hl=>?_,fun n y hl=>?_,fun n1 n2 y1 y2 x h1 h2 k1 k2=>?_,fun n y x hl hh=>?_,fun n y x b hl hs hb=>?_⟩,fun n l hn=>?_,fun b hb=>K.frozen b hb,fun b hb=>qK b (H.F0 b hb),K.wf,⟨Nat.le_trans H.oH.size fL,fun b hb hMb=>?_,fun b hb=>?_,fun b hb=>?_⟩,Nat.le_trans H.l5 fL,fun b hb=>?_,?_,fun k l hk hl=>?_,fun k b hk hb=>?_⟩,hm,fun t v=>VR.mg Ct fp,out⟩
 ·rcases lr n y hl with⟨k,y0,rfl,h1,rfl,h2⟩|⟨h1,h2,h3,h4⟩
  ·rw[h2];exact(KO.b7 k y0 h1).mg Ct fp
  ·rw[h4];exact old n y h1 h2 h3
 ·rcases lr n y hl with⟨k,y0,rfl,h1,rfl,h2⟩|⟨h1,h2,h3,h4⟩
  ·rw[h2];exact KO.Cm k y0 h1
  ·rw[h4];exact K0.Cm n y h1
 ·rcases lr n1 y1 h1 with⟨k,z1,rfl,a1,_,e1⟩|⟨a1,f1,g1,e1⟩<;>rcases lr n2 y2 h2 with⟨k',z2,rfl,a2,_,e2⟩|⟨a2,f2,g2,e2⟩
  ·rw[e1]at k1;rw[e2]at k2;rw[KO.fg k k' z1 z2 x a1 a2 k1 k2]
  ·rw[e1]at k1;rw[e2]at k2;rcases apart _ _ _ a1 k1 with h3|h3
   ·exact absurd h3 (out _ _ a2 f2 g2 x k2)
   ·have:=(K0.eT _ _ _ a2 k2).2.1;omega
  ·rw[e1]at k1;rw[e2]at k2;rcases apart _ _ _ a2 k2 with h3|h3
   ·exact absurd h3 (out _ _ a1 f1 g1 x k1)
   ·have:=(K0.eT _ _ _ a1 k1).2.1;omega
  ·rw[e1]at k1;rw[e2]at k2;exact K0.fg _ _ _ _ x a1 a2 k1 k2
 ·rcases lr n y hl with⟨k,z1,rfl,a1,_,e1⟩|⟨a1,_,_,e1⟩
  ·rw[e1]at hh;obtain⟨q1,q2,q3⟩:=KO.eT _ _ _ a1 hh;refine⟨q1,q2,?_⟩;rcases q3 with q3|q3
   ·exact hMX x q3
   ·exact .inr (Nat.le_trans H.oH.size q3)
  ·rw[e1]at hh;obtain⟨q1,q2,q3⟩:=K0.eT _ _ _ a1 hh;exact⟨q1,Nat.lt_of_lt_of_le q2 fL,q3⟩
 ·rcases lr n y hl with⟨k,z1,rfl,a1,e0,e1⟩|⟨a1,f1,g1,e1⟩
  ·rw[e1]at hs;exact KO.apart k z1 x b a1 hs hb
  ·rw[e1]at hs;have MQ:=(K0.eT _ _ _ a1 (dU hs)).2.1;intro e;rcases K.Co b hb with h3|h3|h3
   ·have Ds:F b:=h3;rw[K.oH.dk b (H.I7 Ds)]at e;exact K0.apart _ _ _ b a1 hs Ds e
   ·rw[e]at h3;exact out _ _ a1 f1 g1 x (dU hs) h3
   ·rw[e]at h3;have:h.size≤x:=h3;omega
 ·by_cases hx:∃k:Nat,ids[k]? =some (some n)
  ·obtain⟨k,hk⟩:=hx;have:=kV hi hk;omega
  ·rcases Nat.lt_or_ge n c with h1|h1
   ·omega
   ·have hnk:¬∃m:Nat,ids[n - c]? =some (some m):=fun⟨m,hm⟩=>by
     simp only[qy]at hn;rw[dif_neg hx,if_neg om,if_pos ⟨m,hm⟩]at hn;cases hn
    simp only[qy]at hn;rw[dif_neg hx,if_neg om,if_neg hnk]at hn;have:=K.names _ _ hn;omega
 ·have h1:=H.oH.bl b hb hMb;have h2:=H.oH.dk b hb;rw[same b (Nat.lt_of_lt_of_le hb H.oH.size) ?_,h1];intro hx;rw[h2]at hx;rcases hMX _ hx with k|k
  ·exact hMb k
  ·have:=H.wf.I6 b;rw[h2]at this;omega
 ·have:=H.F0 b hb;exact(K.oH.cZ b this).trans (H.oH.cZ b hb)
 ·exact(K.oH.dk b (Nat.lt_of_lt_of_le hb H.oH.size)).trans (H.oH.dk b hb)
 ·rcases K.Co b hb with h3|h3|h3
  ·have Ds:F b:=h3;rw[K.oH.dk b (H.I7 Ds)];exact H.Co b Ds
  ·exact .inr (hMX _ h3)
  ·exact .inr (.inr (Nat.le_trans H.oH.size h3))
 ·have:=H.zJ.1;omega
 ·exact H.zJ.2.1 k l hk (hA k l (Nat.lt_of_lt_of_le hk H.zJ.1) hl)
 ·exact hB k b (H.zJ.2.2 k b hk hb)
end
end Go.M
namespace Go.M
open Go
def El (run run':zB):Prop:=∀c f h r,run c f h=some r→run' c f h=some r
def xL (cf Q0:fJ):Prop:=∀g a h r,cf g a h=some r→Q0 g a h=some r
def wx (rf Q1:eS):Prop:=∀l a h r,rf l a h=some r→Q1 l a h=some r
section
variable {E:Env} {base:Nat}
theorem p7 {run run':zB} (H:El run run'):xL (gy E base run) (gy E base run'):=by
 intro g a h r hr;unfold gy at hr ⊢;simp only[Option.bind_eq_some_iff]at hr ⊢;obtain⟨fn,h1,h2⟩:=hr;refine⟨fn,h1,?_⟩;split at h2
 ·rename_i q hq;simpa[hq]using h2
 ·rename_i hq;simp only[Option.bind_eq_some_iff,ai]at h2 ⊢;obtain⟨c,h3,h4,h5⟩:=h2;refine⟨c,h3,h4,?_⟩;split at h5
  ·rename_i f' h' hx;rw[H _ _ _ _ hx];exact h5
  ·rename_i f' h' hx;rw[H _ _ _ _ hx];exact h5
  ·cases h5
theorem xM {run run':zB} (H:El run run'):wx (g6 base run) (g6 base run'):=by
 intro l a h r hr;unfold g6 at hr ⊢;rw[ai]at hr ⊢;refine⟨hr.1,?_⟩;obtain⟨_,hr⟩:=hr;split at hr
 ·rename_i p f ps iW body hg;rw[ai]at hr ⊢;refine⟨hr.1,?_⟩;obtain⟨_,hr⟩:=hr;split at hr
  ·rename_i f1 h1 hx;rw[H _ _ _ _ hx];simp only
   split at hr
   ·rename_i p1 f0 fO qw kb mI;simp only[Option.bind_eq_some_iff]at hr ⊢;obtain⟨q,h2,h3⟩:=hr;exact⟨q,H _ _ _ _ h2,h3⟩
   ·cases hr
  ·cases hr
 ·cases hr
theorem Em {cf Q0:fJ} {rf Q1:eS} (H:xL cf Q0) (G:wx rf Q1) {o:Oper} {f:AF} {h:ab} {r:Vu} (hr:eH E base cf rf o f h=some r):eH E base Q0 Q1 o f h=some r:=by
 unfold eH at hr ⊢;cases hv:aM E f o with
 |some v=>rw[hv]at hr;exact hr
 |none=>
  rw[hv]at hr;simp only at hr ⊢;cases hq:bL E f o with
  |some q=>rw[hq]at hr;exact hr
  |none=>
   rw[hq]at hr;simp only at hr ⊢;cases hm:bf E f o with
   |some m=>rw[hm]at hr;exact hr
   |none=>
    rw[hm]at hr;simp only at hr ⊢;cases he:da E base f o h with
    |none=>rw[he]at hr;cases hr
    |some p=>
     rw[he]at hr;obtain⟨x,h'⟩:=p;cases x with
     |val v=>exact hr
     |enter g args=>
      simp only[Option.bind_eq_some_iff]at hr ⊢;obtain⟨q,h1,h2⟩:=hr;exact⟨q,H _ _ _ _ h1,h2⟩
     |round l args=>
      simp only[Option.bind_eq_some_iff]at hr ⊢;obtain⟨q,h1,h2⟩:=hr;exact⟨q,G _ _ _ _ h1,h2⟩
theorem Cv {cf Q0:fJ} {rf Q1:eS} (H:xL cf Q0) (G:wx rf Q1) {ops:List Oper}:∀{rest:List Oper} {f:AF} {h:ab} {r:AF×ab},vP E base cf rf ops rest f h=some r→vP E base Q0 Q1 ops rest f h=some r
 |[],f,h,r,hr=>hr
 |o::rest,f,h,r,hr=>by
  unfold vP at hr ⊢;split at hr
  ·simp only[Option.bind_eq_some_iff]at hr ⊢;obtain⟨q,h1,h2⟩:=hr;exact⟨q,Em H G h1,Cv H G h2⟩
  ·exact Cv H G hr
theorem xN {cf Q0:fJ} {rf Q1:eS} (H:xL cf Q0) (G:wx rf Q1) {ops:List Oper}:∀{rest:List Oper} {f:AF} {h:ab} {r:AF×ab×List dZ},lB E base cf rf ops rest f h=some r→lB E base Q0 Q1 ops rest f h=some r
 |[],f,h,r,hr=>hr
 |o::rest,f,h,r,hr=>by
  unfold lB at hr ⊢;split at hr
  ·simp only[Option.bind_eq_some_iff]at hr ⊢;obtain⟨q,h1,q2,h2,h3⟩:=hr;exact⟨q,Em H G h1,q2,xN H G h2,h3⟩
  ·simp only[Option.bind_eq_some_iff]at hr ⊢;obtain⟨q2,h2,h3⟩:=hr;exact⟨q2,xN H G h2,h3⟩
theorem Hb {run run':zB} (H:El run run') {ops:Array Oper} {draw:Bool} {f:AF} {h:ab} {r:Ex×AF×ab} (hr:lE E base run ops draw f h=some r):lE E base run' ops draw f h=some r:=by
 unfold lE at hr ⊢;split at hr
 ·simp only[Option.bind_eq_some_iff]at hr ⊢;obtain⟨q,h1,h2⟩:=hr;exact⟨q,Cv (p7 H) (xM H) h1,h2⟩
 ·simp only[Option.bind_eq_some_iff,ai]at hr ⊢;obtain⟨h0,q,h1,h2⟩:=hr;exact⟨h0,q,xN (p7 H) (xM H) h1,h2⟩
theorem En:∀{n m:Nat},n≤m→El (a8 E base n) (a8 E base m)
 |0,m,_=>fun c f h r hr=>by simp[a8]at hr
 |n+1,0,h=>by omega
 |n+1,m+1,Uw=>by
  have ih:El (a8 E base n) (a8 E base m):=En om;intro c f h r hr;unfold a8 at hr ⊢;cases c with
  |skip=>exact hr
  |region id ops draw=>exact Hb ih hr
  |seq a b=>
   simp only at hr ⊢;cases hx:a8 E base n a f h with
   |none=>rw[hx]at hr;cases hr
   |some q=>
    rw[hx]at hr;rw[ih _ _ _ _ hx];obtain⟨ex,f',h'⟩:=q;cases ex with
    |normal=>exact ih _ _ _ _ hr
    |exit id=>exact hr
    |ret=>exact hr
  |cond c t e=>
   simp only[Option.bind_eq_some_iff]at hr ⊢;obtain⟨v,h1,b,h2,h3⟩:=hr;refine⟨v,h1,b,h2,?_⟩;cases b<;>exact ih _ _ _ _ h3
  |block id b=>
   simp only at hr ⊢;cases hx:a8 E base n b f h with
   |none=>rw[hx]at hr;cases hr
   |some q=>rw[hx]at hr;rw[ih _ _ _ _ hx];exact hr
  |loop b=>
   simp only at hr ⊢;cases hx:a8 E base n b f h with
   |none=>rw[hx]at hr;cases hr
   |some q=>
    rw[hx]at hr;rw[ih _ _ _ _ hx];obtain⟨ex,f',h'⟩:=q;cases ex with
    |normal=>exact ih _ _ _ _ hr
    |exit id=>exact hr
    |ret=>exact hr
  |exit id=>exact hr
  |ret=>exact hr
  |rangeFunc g ps iW body=>
   simp only[Option.bind_eq_some_iff,ai]at hr ⊢;obtain⟨g',h1,h2,h3⟩:=hr;refine⟨g',h1,h2,?_⟩;split at h3
   ·simp only[Option.bind_eq_some_iff]at h3 ⊢;obtain⟨q,h4,h5⟩:=h3;refine⟨q,p7 ih _ _ _ _ h4,?_⟩;split at h5
    ·rw[ai]at h5 ⊢;refine⟨h5.1,?_⟩;obtain⟨_,h5⟩:=h5;split at h5
     ·exact h5
     ·exact ih _ _ _ _ h5
    ·cases h5
   ·cases h3
  |_=>exact hr
theorem xO {n m:Nat} (h:n≤m):xL (fK E base n) (fK E base m):=p7 (En h)
end
end Go.M
