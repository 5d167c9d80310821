/-
  Part 6 of the library that the proof leans on.
-/
import Derived.Test.YteoljjhhdgplnaaGreatDoorL5
namespace Go.M
open Go
section
variable {X:Cx} {ρ ρ':Gh} {F:Nat→Prop} {o o':Ob} {c c':Nat} {h h':ab}
theorem ext_get {f aO t0 eX:Nat} {c0 cs:List Value} (hf:h.get f=some (.cells c0 f t0 eX)) (b:Nat):(dW h f aO cs).get b=if b=h.size then some (.cells cs f 0 0)else if b=f then some (.cells c0 f h.size aO)else h.get b:=by
 unfold dW;rw[ab.ao,bu,bp,hf]
theorem sc {f aO:Nat} {cs:List Value}:(dW h f aO cs).size=h.size+1:=by unfold dW;rw[ab.size_push,bu]
theorem LV (W:Wf h) {f aO t0 eX:Nat} {c0 cs:List Value} (hf:h.get f=some (.cells c0 f t0 eX)):Wf (dW h f aO cs):=by
 have qA:=W.lt hf;refine⟨fun b hb=>?_,fun b cs' f' t th hg=>?_⟩
 ·rw[sc]at hb;rw[ext_get hf,if_neg om,if_neg om];exact W.high b om
 ·rw[ext_get hf]at hg;split at hg
  ·cases hg;omega
  ·split at hg
   ·cases hg;omega
   ·exact W.le _ _ _ _ _ hg
theorem TI {f aO t0 eX:Nat} {c0 cs:List Value} (hf:h.get f=some (.cells c0 f t0 eX)) {b:Nat} (hb:b<h.size):hd (dW h f aO cs) b=hd h b:=by
 unfold hd;rw[ext_get hf,if_neg om];by_cases e:b=f
 ·subst e;rw[if_pos rfl,hf]
 ·rw[if_neg e]
theorem LW (W:Wf h) {f t0 aO:Nat} {c0 cs:List Value} (hf:h.get f=some (.cells c0 f t0 aO)) {b:Nat} {l:List Value} (hr:h.rd b=some l):(dW h f aO cs).rd b=some l:=by
 obtain⟨r,h1,h2,h3⟩:=rd_some hr;obtain⟨f1,t1,vS,hg⟩:=dI h3;obtain⟨cr,jJ⟩:=bI h1;obtain⟨ta,q1,q2,ma⟩:=dQ h1;rw[hg]at ma;cases ma;have hb:=W.lt hg;have qA:=W.lt jJ;have oE:∃t th,(dW h f aO cs).get b=some (.cells l r.1 t th):=by
  rw[ext_get hf,if_neg om];by_cases e:b=f
  ·rw[if_pos e];subst e;rw[hg]at hf;cases hf;exact⟨_,_,rfl⟩
  ·rw[if_neg e,hg];exact⟨_,_,rfl⟩
 obtain⟨t,th,oE⟩:=oE;by_cases e:r.1=f
 ·have yA:(dW h f aO cs).get r.1=some (.cells cr r.1 h.size r.2.2):=by
   have Zg:=hf;rw[←e,jJ]at Zg;simp only[Option.some.injEq,e8.cells.injEq]at Zg;rw[ext_get hf,if_neg om,if_pos e,Zg.1,Zg.2.2.2,e]
  exact dO (bH oE yA) h2 (az oE)
 ·have yA:(dW h f aO cs).get r.1=some (.cells cr r.1 r.2.1 r.2.2):=by rw[ext_get hf,if_neg om,if_neg e,jJ]
  exact dO (bH oE yA) h2 (az oE)
theorem dU {S:Ft} {x:Nat} {w:Bool} (h:(x,w)∈S):x∈dk S:=List.mem_map.2 ⟨_,h,rfl⟩
theorem jl {f:Nat} (W:Wf h) (same:∀x,x<h.size→hd h x≠f→h'.get x=h.get x) {b:Nat} {cs:List Value} (bj:hd h b≠f) (hr:h.rd b=some cs):h'.rd b=some cs:=by
 obtain⟨r,h1,h2,h3⟩:=rd_some hr;obtain⟨f1,t1,vS,hg⟩:=dI h3;obtain⟨cr,jJ⟩:=bI h1;obtain⟨ta,q1,q2,ma⟩:=dQ h1;rw[hg]at ma;cases ma;rw[b5 hg]at bj;have a1:=same b (W.lt hg) (by rw[b5 hg];exact bj);have a2:=same r.1 (W.lt jJ) (by rw[b5 jJ];exact bj);exact dO (bH (a1.trans hg) (a2.trans jJ)) h2 (az (a1.trans hg))
theorem Mem.Xg (H:Mem X ρ F o c h) {S:Nat→Ft} (K:MO X ρ F o c h S) {m z l len':Nat} {w:Bool} (c6:Nat) {y y':TO} {Sq:Ft} (hl:look o m=some y) {b f t0 eX aO:Nat} {cs cs':List Value} (hS:S m=(f,w)::Sq) (hb:ρ m=some (.arr b z l)) (hg:h.get b=some (.cells cs f t0 eX))
 (hf:h.dA b=some (f,b,aO)) (_:aO≤b) (EI:c6≤h.size) (hw9:c6=aO∨w=true):
 let h':=dW h f c6 cs'
 let ρ':=cu (cu ρ m none) c (some (.arr h.size z len'))
 let F':=fun x=>F x∨(w=false∧x=h.size)
 (uI:(∀t v,VR c ρ F h t v→VR (c+1) ρ' F' h' t v)→(∀b,b<h.size→¬(hd h b=f)→h'.get b=h.get b)→(∀b cs,F b→h.rd b=some cs→h'.rd b=some cs)→h'.get h.size=some (.cells cs' f 0 0)→h'.dA h.size=some (f,h.size,c6)→OR (c+1) ρ' F' h' X.base c ((f,w)::Sq) y')→
 Mem X ρ' F' ((c,y')::fv o m) (c+1) h'∧∀t v,VR c ρ F h t v→VR (c+1) ρ' F' h' t v:=by
 intro h' ρ' F' uI;have hm:=H.lt hl;obtain⟨c0,bP⟩:=bI hf;simp only at bP;have qA:=H.wf.lt bP;have yE:f∈dk (S m):=by rw[hS];exact List.mem_cons_self
 have qj:=K.eQ m _ f hl yE;have HA:=K.Bq m _ hl;have fj:∀n,n≠m→n≠c→ρ' n=ρ n:=fun n h1 h2=>by simp only[ρ'];rw[bd _ _ h2,bd _ _ h1]
 have hA:∀n l,n<c→ρ' n=some l→ρ n=some l:=fun n l hn h1=>by
  by_cases e:n=m
  ·subst e;simp only[ρ']at h1;rw[bd _ _ om,aK]at h1;cases h1
  ·rwa [fj n e om]at h1
 have hB:∀n b,ρ n=some (.dw b)→ρ' n=some (.dw b):=fun n b' hn=>by
  have:=H.names _ _ hn;by_cases e:n=m
  ·subst e;rw[hb]at hn;cases hn
  ·rwa [fj n e om]
 have qi:∀b,F b→F' b:=fun b hb=>.inl hb;have Xh:∀b,b<h.size→hd h b≠f→h'.get b=h.get b:=fun b' bL hx=>by
  simp only[h'];rw[ext_get bP,if_neg om,if_neg];intro e;subst e;exact hx (b5 bP)
 have cX:∀b cs,F b→h.rd b=some cs→h'.rd b=some cs:=fun b cs hb hr=>by
  rcases hw9 with e|e
  ·simp only[h'];rw[e];exact LW H.wf bP hr
  ·exact jl H.wf Xh (K.apart m _ f b hl (by rw[hS,e];exact List.mem_cons_self) hb) hr
 have C8:∀t v,VR c ρ F h t v→VR (c+1) ρ' F' h' t v:=fun t v=>VR.mono om hA hB qi cX;have tz:h'.get h.size=some (.cells cs' f 0 0):=by simp only[h'];rw[ext_get bP,if_pos rfl]
 have TJ:h'.get f=some (.cells c0 f h.size c6):=by simp only[h'];rw[ext_get bP,if_neg om,if_pos rfl]
 have K9:=H.wf.lt hg;have aas:(h'.rd h.size)=some cs':=dO (bH tz TJ) (by simp only;omega) (az tz);have same:∀b,b<h.size→¬(hd h b=f)→h'.get b=h.get b:=fun b' bL hx=>by
  simp only[h'];rw[ext_get bP,if_neg om,if_neg];intro e;subst e;exact hx (b5 bP)
 have uJ:∀n y1,n≠c→look ((c,y')::fv o m) n=some y1→n≠m∧look o n=some y1:=fun n y1 bj hy=>by
  rw[aJ,if_neg (fun e=>bj e.symm),dy]at hy;by_cases e:n=m
  ·rw[if_pos e]at hy;cases hy
  ·rw[if_neg e]at hy;exact⟨e,hy⟩
 refine H.change K (fun x=>x=f) c y' ((f,w)::Sq) (by simp only[h'];rw[sc];omega) (LV H.wf bP) (fun x hx=>by subst hx;exact qj.2.2)
  same cX (fun b' bL=>TI bP bL) qi (fun b' bL hn=>?_) om hA hB (fun n l hn=>?_) (fun n y1 bj hy=>?_) (fun y1 hy=>?_) (uI C8 same cX tz (bH tz TJ)) (by rw[←hS];exact HA) (fun x hx=>?_) fun x b' hx bL=>?_
 ·rcases bL with bL|⟨hw,rfl⟩
  ·exact absurd bL hn
  ·refine⟨by rw[aas];rfl,fun n y1 x bj hy hx e=>?_,fun x hx e=>?_,by rw[b5 tz];exact qj.2.2⟩
   ·rw[b5 tz]at e;subst e;obtain⟨h1,h2⟩:=uJ n y1 bj hy;exact h1 (K.eY n m y1 _ _ h2 hl (dU hx) yE)
   ·rw[b5 tz]at e;subst e;rw[hS]at HA;simp only[dk,List.map_cons,List.nodup_cons]at HA;rcases List.mem_cons.1 hx with e|hx
    ·simp only[Prod.mk.injEq]at e;rw[hw]at e;exact absurd e.2 (by simp)
    ·exact HA.1 (List.mem_map.2 ⟨_,hx,rfl⟩)
 ·by_cases e:n=c
  ·omega
  ·by_cases e2:n=m
   ·omega
   ·rw[fj n e2 e]at hn;have:=H.names _ _ hn;omega
 ·obtain⟨h1,h2⟩:=uJ n y1 bj hy;refine⟨h2,fj n h1 bj,fun x hx e=>?_⟩;subst e;exact h1 (K.eY n m y1 _ x h2 hl hx yE)
 ·rw[aJ,if_pos rfl,Option.some.injEq]at hy;exact hy.symm
 ·rw[←hS]at hx;obtain⟨q1,q2,q3⟩:=K.eQ m _ x hl hx;refine⟨q1,by simp only[h'];rw[sc];omega,q3,fun n y1 bj hy hh=>?_⟩;obtain⟨h1,h2⟩:=uJ n y1 bj hy;exact h1 (K.eY n m y1 _ x h2 hl hh hx)
 ·rw[←hS]at hx;exact K.apart m _ x b' hl hx bL
theorem PB {b f t0 eX t1 vS:Nat} {c0 c1:List Value} (hg:h.get b=some (.cells c0 f t0 eX)) (hf:h.get f=some (.cells c1 f t1 vS)) (cs':List Value) (x:Nat):
 ((h.setCells b cs').bx f b b).get x=if x=f then some (.cells (if f=b then cs' else c1) f b b)else if x=b then some (.cells cs' f t0 eX)else h.get x:=by
 rw[bp,bz,bz,hg];by_cases e:f=b
 ·subst e;simp
 ·simp[e,hf]
theorem C9 (b f:Nat) (cs':List Value):((h.setCells b cs').bx f b b).size=h.size:=by rw[bu,cC]
theorem HB {base b f aO t0 eX:Nat} {c0 cs':List Value} (_:h.get b=some (.cells c0 f t0 eX)) (hf:h.dA b=some (f,b,aO)) (h1:base≤b) (h2:base≤f):
 h.wr base b cs'=some ((h.setCells b cs').bx f b b):=by
 unfold ab.wr;rw[hf];simp[bC,aG.2 h1,aG.2 h2]
structure aat (h:ab) (b f:Nat) (cs':List Value) (h':ab):Prop where
 size:h'.size=h.size
 wf:Wf h'
 self:∃t th,h'.get b=some (.cells cs' f t th)
 dA:h'.dA b=some (f,b,b)
 same:∀x,x<h.size→hd h x≠f→h'.get x=h.get x
 dk:∀x,hd h' x=hd h x
theorem Bt (W:Wf h) {b f aO t0 eX:Nat} {c0 cs':List Value} (hg:h.get b=some (.cells c0 f t0 eX)) (hf:h.dA b=some (f,b,aO)):aat h b f cs' ((h.setCells b cs').bx f b b):=by
 obtain⟨cr,bP⟩:=bI hf;simp only at bP;have hb:=W.lt hg;have qA:=W.lt bP;have hle:=W.le _ _ _ _ _ hg;have get:=fun x=>PB hg bP cs' x;have TJ:((h.setCells b cs').bx f b b).get f=some (.cells (if f=b then cs' else cr) f b b):=by
  rw[get,if_pos rfl]
 have oE:∃t th,((h.setCells b cs').bx f b b).get b=some (.cells cs' f t th):=by
  by_cases e:b=f
  ·subst e;exact⟨b,b,by rw[TJ,if_pos rfl]⟩
  ·rw[get,if_neg e,if_pos rfl];exact⟨_,_,rfl⟩
 obtain⟨t,th,oE⟩:=oE;have Bu:∀x,x≠f→x≠b→((h.setCells b cs').bx f b b).get x=h.get x:=fun x h1 h2=>by rw[get,if_neg h1,if_neg h2]
 refine⟨C9 _ _ _,⟨fun x hx=>?_,fun x ta f1 t1 vS hx=>?_⟩,⟨t,th,oE⟩,bH oE TJ,fun x hx bj=>?_,fun x=>?_⟩
 ·rw[C9]at hx;rw[Bu x om om];exact W.high x hx
 ·by_cases e1:x=f
  ·subst e1;rw[TJ]at hx;cases hx;exact Nat.le_refl _
  ·by_cases e2:x=b
   ·subst e2;rw[oE]at hx;cases hx;exact hle
   ·rw[Bu x e1 e2]at hx;exact W.le _ _ _ _ _ hx
 ·refine Bu x (fun e=>?_) (fun e=>?_)
  ·subst e;exact bj (b5 bP)
  ·subst e;exact bj (b5 hg)
 ·by_cases e1:x=f
  ·subst e1;rw[b5 TJ,b5 bP]
  ·by_cases e2:x=b
   ·subst e2;rw[b5 oE,b5 hg]
   ·unfold hd;rw[Bu x e1 e2]
theorem Mem.set (H:Mem X ρ F o c h) {S:Nat→Ft} (K:MO X ρ F o c h S) {m:Nat} {y y':TO} {S0:Ft} (hl:look o m=some y) {f:Nat} (hf:(f,true)∈S m) (jB:∀p∈S0,p∈S m) (lq:(dk S0).Nodup) (fG:h'.size=h.size) (G4:Wf h')
 (same:∀x,x<h.size→hd h x≠f→h'.get x=h.get x) (TK:∀x,hd h' x=hd h x)
 (uI:(∀t v,VR c ρ F h t v→VR c ρ F h' t v)→(∀b cs,F b→h.rd b=some cs→h'.rd b=some cs)→OR c ρ F h' X.base m S0 y'):
 Mem X ρ F (eU o m y') c h'∧∀t v,VR c ρ F h t v→VR c ρ F h' t v:=by
 have qj:=K.eQ m y f hl (dU hf);have cX:∀b cs,F b→h.rd b=some cs→h'.rd b=some cs:=fun b cs hb hr=>jl H.wf same (K.apart m y f b hl hf hb) hr;have C8:∀t v,VR c ρ F h t v→VR c ρ F h' t v:=fun t v=>VR.mono (Nat.le_refl _) (fun _ _ _ hx=>hx) (fun _ _ hx=>hx) (fun _ hb=>hb) cX;have nZ:∀x∈dk S0,x∈dk (S m):=fun x hx=>by
  obtain⟨p,hp,rfl⟩:=List.mem_map.1 hx;exact List.mem_map.2 ⟨p,jB p hp,rfl⟩
 have O6:∀n y1,n≠m→look (eU o m y') n=some y1→look o n=some y1:=fun n y1 bj hy=>by rwa [ew,if_neg bj]at hy
 refine H.change K (fun x=>x=f) m y' S0 om G4 (fun x hx=>by subst hx;exact qj.2.2) (fun b hb hx=>same b hb hx) cX (fun b _=>TK b) (fun _ hb=>hb) (fun _ hb hn=>absurd hb hn) (Nat.le_refl _) (fun _ _ _ hx=>hx) (fun _ _ hx=>hx) H.names
  (fun n y1 bj hy=>?_) (fun y1 hy=>?_) (uI C8 cX) lq (fun x hx=>?_) fun x b hx hb=>K.apart m y x b hl (jB _ hx) hb
 ·refine⟨O6 n y1 bj hy,rfl,fun x hx e=>?_⟩;subst e;exact bj (K.eY n m y1 y x (O6 n y1 bj hy) hl hx (dU hf))
 ·rw[ew,if_pos rfl,hl]at hy;simp at hy;exact hy.symm
 ·obtain⟨q1,q2,q3⟩:=K.eQ m y x hl (nZ x hx);exact⟨q1,om,q3,fun n y1 bj hy hh=>bj (K.eY n m y1 y x (O6 n y1 bj hy) hl hh (nZ x hx))⟩
def oe (ρ:Gh) (c:Nat) (ls:List Loc):Gh:=fun n=>if n<c then ρ n else ls[n - c]?
theorem fw (ρ:Gh) {c n:Nat} (ls:List Loc) (h:n<c):oe ρ c ls n=ρ n:=if_pos h
theorem se (ρ:Gh) (c i:Nat) (ls:List Loc):oe ρ c ls (c+i)=ls[i]? :=by unfold oe;rw[if_neg om];congr 1;omega
theorem tC {base:Nat} {Ss:List Ft} {new:List (Nat×TO)} {ls:List Loc}:∀{k:Nat},C4 F h base k Ss new ls→∀n,look new n=if n<k then none else(new[n - k]?).map (·.2):=by
 intro k N;have key:∀(new:List (Nat×TO)) (k:Nat),(∀(i:Nat) p,new[i]? =some p→p.1=k+i)→∀n,look new n=if n<k then none else(new[n - k]?).map (·.2):=by
  intro new
  induction new with
  |nil=>intro k _ n;simp[look]
  |cons p l ih=>
   intro k hk n;have h0:=hk 0 p rfl;rw[aJ];have ih':=ih (k+1) (fun i q hq=>by have:=hk (i+1) q (by simpa using hq);omega) n;by_cases e:p.1=n
   ·rw[if_pos e,if_neg om];have:n - k=0:=by omega
    rw[this];rfl
   ·rw[if_neg e,ih'];by_cases e1:n<k
    ·rw[if_pos om,if_pos e1]
    ·rw[if_neg om,if_neg e1];have:n - k=(n - (k+1))+1:=by omega
     rw[this,List.getElem?_cons_succ]
 exact key new k fun i p hp=>(N.nth i p hp).1
theorem Mem.opens (H:Mem X ρ F o c h) {S:Nat→Ft} (K:MO X ρ F o c h S) {m0:Nat} {y0 y1:TO} {S0:Ft} {Ss:List Ft} {new:List (Nat×TO)} {ls:List Loc} (hl:look o m0=some y0) (N:C4 F h X.base c Ss new ls) (hp:(S m0).Perm (S0++Ss.flatten))
 (uI:(∀t v,VR c ρ F h t v→VR (c+new.length) (oe ρ c ls) F h t v)→OR (c+new.length) (oe ρ c ls) F h X.base m0 S0 y1):
 Mem X (oe ρ c ls) F (new++eU o m0 y1) (c+new.length) h∧∀t v,VR c ρ F h t v→VR (c+new.length) (oe ρ c ls) F h t v:=by
 have hA:∀n l,n<c→oe ρ c ls n=some l→ρ n=some l:=fun n l hn h1=>by rwa [fw _ _ hn]at h1
 have hB:∀n b,ρ n=some (.dw b)→oe ρ c ls n=some (.dw b):=fun n b h1=>by rw[fw _ _ (H.names _ _ h1)];exact h1
 have hm:∀t v,VR c ρ F h t v→VR (c+new.length) (oe ρ c ls) F h t v:=fun t v=>VR.mono om hA hB (fun _ h=>h) (fun _ _ _ h=>h);have EW:=H.lt hl
 let S':Nat→Ft:=fun n=>if n<c then(if n=m0 then S0 else S n)else(Ss[n - c]?).getD []
 have s0:S' m0=S0:=(if_pos EW).trans (if_pos rfl);have s1:∀n,n<c→n≠m0→S' n=S n:=fun n h1 h2=>(if_pos h1).trans (if_neg h2);have s2:∀i:Nat,S' (c+i)=(Ss[i]?).getD []:=fun i=>(if_neg om).trans (by rw[Nat.add_sub_cancel_left]);have Zh:(dk (S m0)).Perm (dk S0++dk Ss.flatten):=by rw[←pD];exact hp.map _
 have lq:(dk S0++dk Ss.flatten).Nodup:=Zh.nodup_iff.1 (K.Bq m0 _ hl);have inS:∀(i:Nat) Q,Ss[i]? =some Q→∀p∈Q,p∈S m0:=fun i Q hQ p hpQ=>hp.mem_iff.2 (List.mem_append_right _ (List.mem_flatten.2 ⟨Q,List.mem_of_getElem? hQ,hpQ⟩))
 -- where an object comes from
 have kR:∀n y,look (new++eU o m0 y1) n=some y→(n=m0∧y=y1)∨(n<c∧n≠m0∧look o n=some y)∨∃(i:Nat) (Q:Ft) (l:Loc),n=c+i∧Ss[i]? =some Q∧ls[i]? =some l∧CR F h X.base Q (.o y l):=by
  intro n y hn;rw[jA,tC N]at hn;by_cases hc:n<c
  ·rw[if_pos hc]at hn;simp only at hn;rw[ew]at hn;by_cases e:n=m0
   ·rw[if_pos e,hl]at hn;simp at hn;exact .inl ⟨e,hn.symm⟩
   ·rw[if_neg e]at hn;exact .inr (.inl ⟨hc,e,hn⟩)
  ·rw[if_neg hc]at hn;cases hq:new[n - c]? with
   |none=>
    rw[hq]at hn;simp only[Option.map_none]at hn;rw[ew,if_neg om]at hn;exact absurd (H.lt hn) hc
   |some p=>
    rw[hq]at hn;simp only[Option.map_some,Option.some.injEq]at hn;subst hn;obtain⟨_,Q,l,h1,h2,h3⟩:=N.nth _ _ hq;exact .inr (.inr ⟨n - c,Q,l,om,h1,h2,h3⟩)
 have RM:∀n y,look (new++eU o m0 y1) n=some y→∀p∈S' n,(n<c∧n≠m0∧p∈S n∧look o n=some y)∨p∈S m0:=by
  intro n y hn p O7;rcases kR n y hn with⟨rfl,_⟩|⟨h1,h2,h3⟩|⟨i,Q,l,rfl,h1,_,_⟩
  ·rw[s0]at O7;exact .inr (hp.mem_iff.2 (List.mem_append_left _ O7))
  ·rw[s1 n h1 h2]at O7;exact .inl ⟨h1,h2,O7,h3⟩
  ·rw[s2,h1]at O7;exact .inr (inS i Q h1 p O7)
 refine⟨⟨⟨S',fun n y hn=>?_,fun n y hn=>?_,fun n1 n2 z1 z2 x h1 h2 k1 k2=>?_,fun n y x hn hx=>?_,fun n y x b hn hx hb=>?_⟩,fun n l hn=>?_,H.frozen,H.F0,H.wf,H.od,H.l8,H.Br,?_,fun k l hk hl=>?_,fun k b hk hb=>?_⟩,hm⟩
 ·rcases kR n y hn with⟨rfl,rfl⟩|⟨h1,h2,h3⟩|⟨i,Q,l,rfl,h1,h2,h3⟩
  ·rw[s0];exact uI hm
  ·rw[s1 n h1 h2];exact(K.b8 n y h3).bk (T:=fun _=>False) H.wf (fun _ _ _=>rfl) (fun _ _ hf=>hf.elim) (fun _ h=>h) (fun _ _ _ h=>h) hm (fw _ _ h1)
  ·rw[s2,h1];exact OR.qQ h3 (by rw[se];exact h2)
 ·rcases kR n y hn with⟨rfl,rfl⟩|⟨h1,h2,h3⟩|⟨i,Q,l,rfl,h1,h2,h3⟩
  ·rw[s0];exact(List.nodup_append.1 lq).1
  ·rw[s1 n h1 h2];exact K.Bq n y h3
  ·rw[s2,h1];have:(Q.map (·.1)).Sublist (dk Ss.flatten):=(List.sublist_flatten_of_mem (List.mem_of_getElem? h1)).map _;exact this.nodup (List.nodup_append.1 lq).2.1
 ·have idx:∀(i j:Nat) (Q R:Ft) (x:Nat),Ss[i]? =some Q→Ss[j]? =some R→x∈dk Q→x∈dk R→i=j:=by
   have qA:(Ss.map dk).flatten.Nodup:=by
    have:=(List.nodup_append.1 lq).2.1;unfold dk at this;rw[List.map_flatten]at this;exact this
   intro i j Q R x hi hj Zi Zj;have pw:=List.pairwise_iff_getElem.1 (List.pairwise_flatten.1 qA).2;have key:∀(i j:Nat) (Q R:Ft),Ss[i]? =some Q→Ss[j]? =some R→x∈dk Q→x∈dk R→i<j→False:=fun i j Q R hi hj Zi Zj bF=>by
    have li:=(List.getElem?_eq_some_iff.1 hi);have lj:=(List.getElem?_eq_some_iff.1 hj);refine pw i j (by simpa using li.1) (by simpa using lj.1) bF x ?_ x ?_ rfl
    ·rw[List.getElem_map,li.2];exact Zi
    ·rw[List.getElem_map,lj.2];exact Zj
   rcases Nat.lt_trichotomy i j with bF|heq|bF
   ·exact(key i j Q R hi hj Zi Zj bF).elim
   ·exact heq
   ·exact(key j i R Q hj hi Zj Zi bF).elim
  have dis:∀x,x∈dk S0→∀(i:Nat) (Q:Ft),Ss[i]? =some Q→x∈dk Q→False:=fun x h1 i Q h2 h3=>by
   refine(List.nodup_append.1 lq).2.2 x h1 x ?_ rfl;obtain⟨p,Xi,rfl⟩:=List.mem_map.1 h3;exact List.mem_map.2 ⟨p,List.mem_flatten.2 ⟨Q,List.mem_of_getElem? h2,Xi⟩,rfl⟩
  have inm:∀(x i:Nat) (Q:Ft),Ss[i]? =some Q→x∈dk Q→x∈dk (S m0):=fun x i Q h1 h2=>by
   obtain⟨p,Xi,rfl⟩:=List.mem_map.1 h2;exact List.mem_map.2 ⟨p,inS i Q h1 p Xi,rfl⟩
  have in0:∀x,x∈dk S0→x∈dk (S m0):=fun x hx=>Zh.mem_iff.2 (List.mem_append_left _ hx);rcases kR n1 z1 h1 with⟨rfl,_⟩|⟨a1,a2,a3⟩|⟨i,Q,l,rfl,a1,_,_⟩<;>rcases kR n2 z2 h2 with⟨rfl,_⟩|⟨b1,b2,b3⟩|⟨j,R,l',rfl,b1,_,_⟩
  ·rfl
  ·rw[s0]at k1;rw[s1 _ b1 b2]at k2;exact absurd (K.eY _ _ _ _ x hl b3 (in0 x k1) k2).symm b2
  ·rw[s0]at k1;rw[s2,b1]at k2;exact(dis x k1 j R b1 k2).elim
  ·rw[s1 _ a1 a2]at k1;rw[s0]at k2;exact absurd (K.eY _ _ _ _ x a3 hl k1 (in0 x k2)) a2
  ·rw[s1 _ a1 a2]at k1;rw[s1 _ b1 b2]at k2;exact K.eY _ _ _ _ x a3 b3 k1 k2
  ·rw[s1 _ a1 a2]at k1;rw[s2,b1]at k2;exact absurd (K.eY _ _ _ _ x a3 hl k1 (inm x j R b1 k2)) a2
  ·rw[s2,a1]at k1;rw[s0]at k2;exact(dis x k2 i Q a1 k1).elim
  ·rw[s2,a1]at k1;rw[s1 _ b1 b2]at k2;exact absurd (K.eY _ _ _ _ x hl b3 (inm x i Q a1 k1) k2).symm b2
  ·rw[s2,a1]at k1;rw[s2,b1]at k2;rw[idx i j Q R x a1 b1 k1 k2]
 ·obtain⟨p,Xi,rfl⟩:=List.mem_map.1 hx;rcases RM n y hn p Xi with⟨_,_,h3,h4⟩|h3
  ·exact K.eQ n y _ h4 (dU h3)
  ·exact K.eQ m0 _ _ hl (dU h3)
 ·rcases RM n y hn _ hx with⟨_,_,h3,h4⟩|h3
  ·exact K.apart n y x b h4 h3 hb
  ·exact K.apart m0 _ x b hl h3 hb
 ·by_cases hc:n<c
  ·omega
  ·unfold oe at hn;rw[if_neg hc]at hn;have:=(List.getElem?_eq_some_iff.1 hn).1;have:=N.l2;omega
 ·have:=H.yS.1;omega
 ·exact H.yS.2.1 k l hk (hA k l (Nat.lt_of_lt_of_le hk H.yS.1) hl)
 ·exact hB k b (H.yS.2.2 k b hk hb)
theorem Mem.share (H:Mem X ρ F o c h) (m:Nat):∃F',Mem X ρ F' (iV o m) c h∧(∀t v,VR c ρ F h t v→VR c ρ F' h t v)∧(∀b,F b→F' b)∧
 ∀z w es v,look o m=some (.arr z w es)→VR c ρ F h (.tk m) v→VR c ρ F' h (.sl z es false) v:=by
 unfold iV;split
 ·rename_i z w es hl;obtain⟨S,K⟩:=H.ex;have hO:=K.b8 m _ hl;have O6:∀n y,n≠m→look (eU o m (.arr z false es)) n=some y→look o n=some y:=fun n y bj hy=>by rwa [ew,if_neg bj]at hy
  have Xj:∀y',look (eU o m (.arr z false es)) m=some y'→y'= .arr z false es:=fun y' hy=>by rw[ew,if_pos rfl,hl]at hy;simp at hy;exact hy.symm
  cases hS:S m with
  |nil=>
   rw[hS]at hO;cases hO with
   |nil hb hz=>
    obtain⟨M,hm⟩:=H.change K (F':=F) (ρ':=ρ) (c':=c) (h':=h) (o':=eU o m (.arr z false [])) (fun _=>False) m (.arr z false []) [] (Nat.le_refl _) H.wf (fun _ hf=>hf.elim) (fun _ _ _=>rfl) (fun _ _ _ h=>h) (fun _ _=>rfl) (fun _ h=>h) (fun _ h hn=>absurd h hn) (Nat.le_refl _) (fun _ _ _ h=>h) (fun _ _ h=>h) H.names
     (fun n y bj hy=>⟨O6 n y bj hy,rfl,fun _ _ hf=>hf.elim⟩) Xj (.nil hb hz) (by simp[dk]) (by simp[dk]) (by simp)
    refine⟨F,M,hm,fun _ h=>h,fun z' w' bT v sf hv=>?_⟩;rw[hl]at sf;cases sf;cases hv with
    |tk hn pF ha h0=>
     rcases h0 _ hb with rfl |⟨b,o',cs,q1,q2,q3,q4,rfl⟩
     ·exact .nil rfl
     ·exact .sl q1 q2 q3 rfl (Nat.le_refl _) (fun h=>by cases h) (by simpa using q4) (by simp) (by simp) fun i j e t v h1=>by simp at h1
  |cons p Sq=>
   have V0:=fun x hx=>K.eQ m _ x hl hx;have wq:∀(n:Nat) (y:TO) (x:Nat),n≠m→look o n=some y→x∈dk (S n)→x∈dk (S m)→False:=fun n y x bj hn hx VZ=>bj (K.eY n m y _ x hn hl hx VZ);rw[hS]at hO V0 wq;cases hO with
   |arr hb hg hf ht dS hz hlen he gU hc hF=>
    rename_i b f t0 eX aO cs;have fW:h.rd b=some cs:=dO hf ht (az hg);have TL:∀t v,VR c ρ F h t v→VR c ρ (fun x=>F x∨x=b) h t v:=fun t v=>VR.mono (Nat.le_refl _) (fun _ _ _ h=>h) (fun _ _ h=>h) (fun _ h=>.inl h) (fun _ _ _ h=>h);have MM:Mem X ρ (fun x=>F x∨x=b) (eU o m (.arr z false es)) c h∧∀t v,VR c ρ F h t v→VR c ρ (fun x=>F x∨x=b) h t v:=by
     refine H.change K (F':=fun x=>F x∨x=b) (ρ':=ρ) (c':=c) (h':=h) (o':=eU o m (.arr z false es)) (fun _=>False) m (.arr z false es) [(f,false)] (Nat.le_refl _) H.wf (fun _ hf=>hf.elim) (fun _ _ _=>rfl) (fun _ _ _ h=>h) (fun _ _=>rfl) (fun _ h=>.inl h)
      (fun b' bL hn=>?_) (Nat.le_refl _) (fun _ _ _ h=>h) (fun _ _ h=>h) H.names
      (fun n y bj hy=>⟨O6 n y bj hy,rfl,fun _ _ hf=>hf.elim⟩) Xj (.arr hb hg hf ht dS hz hlen he gU (fun i j e t v q1 q2 q3=>TL _ _ (hc i j e t v q1 q2 q3)) fun _=>.inr rfl) (by simp[dk]) (fun x hx=>?_) (fun x b' hx=>by simp at hx)
     ·rcases bL with bL|rfl
      ·exact absurd bL hn
      ·refine⟨by rw[fW];rfl,fun n y x bj hy hx e=>?_,by simp,?_⟩
       ·rw[b5 hg]at e;subst e;exact wq n y _ bj (O6 n y bj hy) (dU hx) List.mem_cons_self
       ·rw[b5 hg];exact(V0 _ List.mem_cons_self).2.2
     ·simp only[dk,List.map_cons,List.map_nil,List.mem_singleton]at hx;subst hx;obtain⟨q1,q2,q3⟩:=V0 _ List.mem_cons_self;exact⟨q1,q2,q3,fun n y bj hy hh=>wq n y _ bj (O6 n y bj hy) hh List.mem_cons_self⟩
    obtain⟨M,hm⟩:=MM;refine⟨_,M,hm,fun _ h=>.inl h,fun z' w' bT v sf hv=>?_⟩;rw[hl]at sf;cases sf;cases hv with
    |tk hn pF ha h0=>
     obtain⟨cap,h1,rfl⟩:=ha _ _ _ hb;exact .sl (.inr rfl) fW hz rfl h1 (fun h=>by cases h) (by rw[Nat.zero_add];omega) he gU fun i j e t v q1 q2 q3=>hm _ _ (hc i j e t v q1 q2 (by simpa using q3))
 ·rename_i Cl;exact⟨F,H,fun _ _ h=>h,fun _ h=>h,fun z w es v hl=>absurd hl (Cl z w es)⟩
end
def fk (ids:List (Option Nat)) (zf:Nat→Nat) (ρ:Gh):Gh:=fun n=>match ids[n]? with
 |some (some m)=>ρ m
 |some none=>some (.nil (zf n))
 |none=>none
section
variable {X:Cx} {ρ:Gh} {F:Nat→Prop} {o:Ob} {c:Nat} {h:ab} {ids:List (Option Nat)} {zf:Nat→Nat}
theorem qR {n:Nat} {x:Option Nat} (h:ids[n]? =some x):n<ids.length:=(List.getElem?_eq_some_iff.1 h).1
def TxR (c:Nat) (ρ:Gh) (F:Nat→Prop) (h:ab) (c':Nat) (ρ':Gh):Tx→Tx→Prop
 | .v a,.v b=>∀x,VR c ρ F h a x→VR c' ρ' F h b x
 | .l a,.l b=>∀m,dH c ρ F h a m→dH c' ρ' F h b m
 |_,_=>True
theorem oj.rel (H:Mem X ρ F o c h) {a b:Tx} (L:oj ids o a b):TxR c ρ F h ids.length (fk ids zf ρ) a b:=by
 induction L with
 |s hv=>intro x hx;obtain rfl:=hv.eq;cases hx with|s hp=>exact .s hp
 |sl hz hf he=>
  intro x hx;obtain rfl:=he.eq;simp only[Bool.or_eq_true,beq_iff,Bool.not_eq_true']at hz hf;cases hx with
  |nil he=>exact .nil he
  |sl h1 h2 h3 h4 h5 h6 h7 h8 h9 hc=>
   rcases hz with rfl |rfl
   ·refine .sl h1 h2 h3 h4 h5 (fun h=>h6 ?_) h7 h8 h9 fun i j e t v q1 q2 q3=>(hc i j e t v q1 q2 q3).dL (h9 e (List.mem_of_getElem? q1) t (List.mem_of_getElem? q2));rcases hf with hf|hf
    ·rw[hf]at h;cases h
    ·exact hf
   ·omega
 |new hi=>
  intro x hx;cases hx with
  |nil he=>exact .tk (qR hi) rfl (fun b z len hx=>by simp[fk,hi]at hx) (fun z hx=>.inl rfl)
  |sl h1 h2 h3=>omega
 |tk hi=>
  intro x hx;cases hx with
  |tk hn pF ha h0=>exact .tk (qR hi) pF (fun b z len hx=>ha b z len (by simpa[fk,hi]using hx)) (fun z hx=>h0 z (by simpa[fk,hi]using hx))
 |pv hi he=>
  intro x hx;obtain rfl:=he.eq;cases hx with
  |pv hn pF ha h0=>exact .pv (qR hi) pF (fun b z len hx=>ha b z len (by simpa[fk,hi]using hx)) (fun z hx=>h0 z (by simpa[fk,hi]using hx))
 |look hl he=>
  intro x hx;obtain rfl:=he.eq;obtain⟨S,K⟩:=H.ex;cases hx with
  |tk hn pF ha h0=>
   have hO:=K.b8 _ _ hl;generalize S _=Sm at hO;cases hO with
   |nil hb hz=>
    rcases h0 _ hb with rfl |⟨b,o',cs,q1,q2,q3,q4,rfl⟩
    ·exact .nil rfl
    ·exact .sl q1 q2 q3 rfl (Nat.le_refl _) (fun h=>by cases h) (by simpa using q4) (by simp) (by simp) fun i j e t v h1=>by simp at h1
   |arr hb hg hf ht dS hz hlen he gU hc hF=>
    obtain⟨cap,h1,rfl⟩:=ha _ _ _ hb
    exact .sl (hF rfl) (dO hf ht (az hg)) hz rfl h1 (fun h=>by cases h) (by rw[Nat.zero_add];omega) he gU
     fun i j e t v q1 q2 q3=>(hc i j e t v q1 q2 (by simpa using q3)).dL (gU e (List.mem_of_getElem? q1) t (List.mem_of_getElem? q2))
 |ptr hi=>intro x hx;cases hx with|ptr hb=>exact .ptr (by simpa[fk,hi]using hb)
 |ep he=>
  intro x hx;obtain rfl:=he.eq;cases hx with
  |ep h1 h2 h3 h4 hc=>exact .ep h1 h2 h3 h4 fun j t v q1 q2=>(hc j t v q1 q2).dL (h4 t (List.mem_of_getElem? q1))
 |mp hi=>intro x hx;cases hx with|mp hb=>exact .mp (by simpa[fk,hi]using hb)
 |bg hi he=>intro x hx;obtain rfl:=he.eq;cases hx with|bg hb=>exact .bg (by simpa[fk,hi]using hb)
 |agg _ ih=>intro x hx;obtain⟨a',rfl,h1⟩:=hx.fi;exact .gd (ih _ h1)
 |cY _ ih=>intro x hx;obtain⟨a',rfl,h1⟩:=hx.r9;exact .iw (ih _ h1)
 |mT _ ih=>intro x hx;cases hx with|mT sZ=>exact .mT (ih _ sZ)
 |dc _ _ AI AJ=>
  intro x hx;cases hx with
  |dc hs ha ht hk=>
   have q1:=AI _ ⟨by rw[Array.length_toList];exact hs,fun i t v q1 q2=>ha i t v q1 (by simpa using q2)⟩;have q2:=AJ _ ⟨by rw[Array.length_toList];exact ht,fun i t v q1 q2=>hk i t v q1 (by simpa using q2)⟩;exact .dc (by have:=q1.1;rwa [Array.length_toList]at this) (fun i t v r1 r2=>q1.2 i t v r1 (by simpa using r2)) (by have:=q2.1;rwa [Array.length_toList]at this) (fun i t v r1 r2=>q2.2 i t v r1 (by simpa using r2))
 |j=>intro x _;exact .j _
 |nil=>intro m hm;rw[hm.bK];exact .nil
 |cons _ _ AI AJ=>intro m hm;obtain⟨v,m',rfl,h1,h2⟩:=hm.aQ;exact .cons (AI _ h1) (AJ _ h2)
theorem pG (H:Mem X ρ F o c h) (v v':TV) (x:Value) (L:W9 ids o v v') (hv:VR c ρ F h v x):VR ids.length (fk ids zf ρ) F h v' x:=oj.rel H L x hv
theorem Da (H:Mem X ρ F o c h) (l l':List TV) (m:List Value) (L:Xa ids o l l') (hv:dH c ρ F h l m):dH ids.length (fk ids zf ρ) F h l' m:=oj.rel H L m hv
theorem eZ {z:Nat}:∀{es:List (List TV)} {i:Nat} {e:List TV},(∀e∈es,e.length=z)→es[i]? =some e→(es.flatten.drop (i*z)).take z=e∧(i+1)*z≤es.flatten.length
 |[],i,e,_,h=>by simp at h
 |a::l,0,e,hz,h=>by
  simp at h;subst h;have:=hz a List.mem_cons_self;simp[this]
 |a::l,i+1,e,hz,h=>by
  have ha:=hz a List.mem_cons_self;obtain⟨h1,h2⟩:=eZ (es:=l) (i:=i) (fun e he=>hz e (List.mem_cons_of_mem _ he)) (by simpa using h);have e1:(i+1)*z=a.length+i*z:=by rw[ha,Nat.add_mul];omega
  refine⟨?_,?_⟩
  ·rw[List.flatten_cons,e1,List.drop_append,List.drop_eq_nil_of_le om];simpa using h1
  ·rw[List.flatten_cons,List.length_append];have e2:(i+1+1)*z=a.length+(i+1)*z:=by rw[ha,Nat.add_mul (i+1)];omega
   omega
theorem jC {z:Nat}:∀{es:List (List TV)} {i:Nat} {e:List TV},(∀e∈es,e.length=z)→i<es.length→(es.set i e).flatten=es.flatten.take (i*z)++(e++(es.flatten.drop (i*z)).drop z)
 |[],i,e,_,h=>by simp at h
 |a::l,0,e,hz,h=>by
  have:=hz a List.mem_cons_self;subst this;simp
 |a::l,i+1,e,hz,h=>by
  have ha:=hz a List.mem_cons_self;have ih:=jC (es:=l) (i:=i) (e:=e) (fun e he=>hz e (List.mem_cons_of_mem _ he)) (by simpa using h);have e1:(i+1)*z=a.length+i*z:=by rw[ha,Nat.add_mul];omega
  rw[List.set_cons_succ,List.flatten_cons,List.flatten_cons,ih,e1,List.take_length_add_append,List.drop_length_add_append,List.append_assoc]
theorem cI.Xk {base:Nat} {S V:Ft} {l l2:List TV} {m:List Value} (H:cI c ρ F h base S l m) (p n:Nat) (hf:∀S2,cI c ρ F h base S2 ((l.drop p).take n) ((m.drop p).take n)→∃S3,cI c ρ F h base S3 l2 ((m.drop p).take n)∧S3.Perm (S2++V)):
 ∃S',cI c ρ F h base S' (l.take p++(l2++(l.drop p).drop n)) m∧S'.Perm (S++V):=by
 obtain⟨S1,S2,S3,rfl,h1,h2,h3⟩:=H.part p n;obtain⟨S4,h4,h5⟩:=hf S2 h2;refine⟨S1++(S4++S3),?_,?_⟩
 ·have:=h1.join (h4.join h3)
  rwa [List.take_append_drop,List.take_append_drop]at this
 ·refine((h5.append_right S3).append_left S1).trans ?_;rw[List.append_assoc,List.append_assoc,List.append_assoc];exact(((List.perm_append_comm (l₁:=V) (l₂:=S3)).append_left S2)).append_left S1
theorem cI.Fx {base:Nat} {S:Ft} {l:List TV} {m:List Value} (H:cI c ρ F h base S l m):(∀t∈l,lZ t=true)→CR F h base S (.cs l m):=by
 induction H with
 |nil=>intro _;exact .nil
 |vr hv _ ih=>
  rename_i t v l m _;intro hc;have h1:=hc t List.mem_cons_self;have h2:=ih fun t ht=>hc t (List.mem_cons_of_mem _ ht);have hf:M.fz t=true:=by
   unfold lZ at h1;split at h1
   ·cases hv
   ·exact h1
  exact .cons (S:=[]) (.fz hf (hv.dL hf)) h2
 |cl hv _ ih=>intro hc;exact .cons hv (ih fun t ht=>hc t (List.mem_cons_of_mem _ ht))
theorem iy.Fx {base kd:Nat} {S:Ft} {l:List (Value×TV)} {m:List MapEntry} (H:iy c ρ F h base kd S l m):(∀e∈l,∀t∈aA e.2,lZ t=true)→CR F h base S (.es kd l m):=by
 induction H with
 |nil=>intro _;exact .Jb
 |cons hk ir ha hv _ ih=>intro hc;exact .zy hk ir ha (hv.Fx (hc _ List.mem_cons_self)) (ih fun e he=>hc e (List.mem_cons_of_mem _ he))
theorem cI.conv {base c':Nat} {ρ':Gh} {S:Ft} {l:List TV} {m:List Value} (H:cI c ρ F h base S l m) (hc:∀t∈l,lZ t=true):cI c' ρ' F h base S l m:=cI.qQ (H.Fx hc) _ _ rfl
theorem iy.conv {base kd c':Nat} {ρ':Gh} {S:Ft} {l:List (Value×TV)} {m:List MapEntry} (H:iy c ρ F h base kd S l m) (hc:∀e∈l,∀t∈aA e.2,lZ t=true):iy c' ρ' F h base kd S l m:=iy.qQ (H.Fx hc) _ _ _ rfl
theorem iy.put {base kd c':Nat} {ρ':Gh} {k:Value} {v v1:TV} {V:Ft} (ha:dj v=dj v1) (hf:∀S2 (x:Value),cI c ρ F h base S2 (aA v) x.cells.toList→∃S3,cI c' ρ' F h base S3 (aA v1) x.cells.toList∧S3.Perm (S2++V)):
 ∀{es:List (Value×TV)} {S:Ft} {ev:List MapEntry},(∀e∈es,∀t∈aA e.2,lZ t=true)→iy c ρ F h base kd S (dE es k v) ev→∃S',iy c' ρ' F h base kd S' (dE es k v1) ev∧S'.Perm (S++V):=by
 have one:∀{l:List (Value×TV)} {S:Ft} {ev:List MapEntry},(∀e∈l,∀t∈aA e.2,lZ t=true)→iy c ρ F h base kd S ((k,v)::l) ev→∃S',iy c' ρ' F h base kd S' ((k,v1)::l) ev∧S'.Perm (S++V):=by
  intro l S ev bU H;cases H with
  |cons hk ir vV hv hl=>
   obtain⟨S3,h1,h2⟩:=hf _ _ hv;refine⟨_,.cons hk ir (ha.symm.trans vV) h1 (hl.conv bU),?_⟩;refine(h2.append_right _).trans ?_;rw[List.append_assoc,List.append_assoc];exact List.perm_append_comm.append_left _
 intro es
 induction es with
 |nil=>intro S ev _ H;exact one (by simp) H
 |cons e es ih=>
  intro S ev bU H;unfold dE at H ⊢;have Xl:=fun e' Co=>bU e' (List.mem_cons_of_mem _ Co);cases hq:qg k e.1 with
  |true=>rw[hq]at H;exact one Xl H
  |false=>
   rw[hq]at H;cases H with
   |cons hk ir vV hv hl=>
    obtain⟨S',h1,h2⟩:=ih Xl hl;refine⟨_,.cons hk ir vV (hv.conv (bU _ List.mem_cons_self)) h1,?_⟩;rw[List.append_assoc];exact h2.append_left _
theorem wJ {k:Value} {v:TV}:∀{es:List (Value×TV)} {e:Value×TV},e∈dE es k v→e=(k,v)∨e∈es
 |[],e,h=>by simp[dE]at h;exact .inl h
 |a::l,e,h=>by
  unfold dE at h;split at h
  ·rcases List.mem_cons.1 h with rfl |h
   ·exact .inl rfl
   ·exact .inr (List.mem_cons_of_mem _ h)
  ·rcases List.mem_cons.1 h with rfl |h
   ·exact .inr List.mem_cons_self
   ·rcases wJ h with h|h
    ·exact .inl h
    ·exact .inr (List.mem_cons_of_mem _ h)
def LiR (X:Cx) (ρ:Gh) (F:Nat→Prop) (_:Ob) (c:Nat) (h:ab) (S:Nat→Ft) (U:List Nat):Li→Prop
 | .c t y=>∀S0 v,cI c ρ F h X.base S0 [t] [v]→∃S1,CR F h X.base S1 (.c (.own y) v)∧S1.Perm (S0++U.flatMap S)
 | .k l m=>∀S0 vs,cI c ρ F h X.base S0 l vs→∃S1,CR F h X.base S1 (.cs m vs)∧S1.Perm (S0++U.flatMap S)
 | .b q y=>∀yo n S0 l,q=some yo→OR c ρ F h X.base n S0 yo→ρ n=some l→∃S1,CR F h X.base S1 (.o y l)∧S1.Perm (S0++U.flatMap S)
 | .q op iO=>∀es z cs S0,(∀e∈es,e.length=z)→(∀e∈es,∀t∈e,lZ t=true)→(∀p∈op,p.1<es.length∧p.2.length=z)→cI c ρ F h X.base S0 (cF es op).flatten cs→
  ∃S1,cI c ρ F h X.base S1 (cF es iO).flatten cs∧S1.Perm (S0++U.flatMap S)∧(∀e∈cF es iO,e.length=z∧∀t∈e,lZ t=true)∧(cF es iO).length=es.length
 | .m op iO=>∀es kd ev S0,(∀e∈es,∀t∈aA e.2,lZ t=true)→iy c ρ F h X.base kd S0 (I6 es op) ev→∃S1,iy c ρ F h X.base kd S1 (I6 es iO) ev∧S1.Perm (S0++U.flatMap S)∧∀e∈I6 es iO,∀t∈aA e.2,lZ t=true
theorem cI.Fy {base:Nat} {S0:Ft} {t:TV} {v:Value} (H:cI c ρ F h base S0 [t] [v]) (hp:eI t=true):S0=[]∧VR c ρ F h t v:=by
 obtain⟨h1,h2⟩:=H.VX (fun t v hv hf=>hv.dL hf) (by simpa using hp);exact⟨h2,h1.head⟩
theorem Jd (y:TO) {m:Nat} {l:Loc} {v:Value} (hv:VR c ρ F h (CW y m) v) (hl:ρ m=some l):VR 1 (fun _=>some l) F h (CW y 0) v:=by
 cases y with
 |cells cs=>cases hv with|ptr hb=>exact .ptr (hl.symm.trans hb)
 |map kd es=>cases hv with|mp hb=>exact .mp (hl.symm.trans hb)
 |eT kd es op=>cases hv with|mp hb=>exact .mp (hl.symm.trans hb)
 |arr z w es=>cases hv with|tk hn h1 ha h0=>exact .tk om h1 (fun b z len hx=>ha b z len (hl.trans hx)) (fun z hx=>h0 z (hl.trans hx))
 |bV z es op=>cases hv with|tk hn h1 ha h0=>exact .tk om h1 (fun b z len hx=>ha b z len (hl.trans hx)) (fun z hx=>h0 z (hl.trans hx))
 |gO ks=>cases hv with|bg hb=>exact .bg (hl.symm.trans hb)
theorem OR.loc {base n:Nat} {S:Ft} {y:TO} (H:OR c ρ F h base n S y):∃l,ρ n=some l:=by cases H<;>exact⟨_,by assumption⟩
theorem iW.Bv {U:List Nat} {i:Li} (L:iW o U i):∀l m,i= .k l m→l.length=m.length∧∀t∈m,lZ t=true:=by
 induction L with
 |Xb=>rintro l m e;cases e;exact⟨rfl,by simp⟩
 |Xc _ _ _ ih=>
  rintro l m e;cases e;obtain⟨h1,h2⟩:=ih _ _ rfl;refine⟨by simp[h1],fun t ht=>?_⟩;rcases List.mem_cons.1 ht with rfl |ht
  ·rfl
  ·exact h2 t ht
 |kfz _ hf _ ih=>
  rintro l m e;cases e;obtain⟨h1,h2⟩:=ih _ _ rfl;refine⟨by simp[h1],fun t ht=>?_⟩;rcases List.mem_cons.1 ht with rfl |ht
  ·unfold lZ;split<;>first|rfl |exact hf
  ·exact h2 t ht
 |_=>rintro l m e;cases e
theorem CR.fzs {base:Nat}:∀{l:List TV} {m:List Value},dH 0 tB F h l m→(∀t∈l,M.fz t=true)→CR F h base [] (.cs l m)
 |[],m,H,_=>by rw[H.bK];exact .nil
 |t::l,m,H,hf=>by
  obtain⟨v,m',rfl,h1,h2⟩:=H.aQ;exact .cons (S:=[]) (.fz (hf t List.mem_cons_self) h1) (CR.fzs h2 fun t ht=>hf t (List.mem_cons_of_mem _ ht))
theorem Je {v:TV} {x:Value} (hf:CV v=true) (hv:VR c ρ F h v x):dj v=fA x∧(∀t∈aA v,fz t=true)∧dH 0 tB F h (aA v) x.cells.toList:=by
 have h0:=hv.vu (c':=0) (ρ':=tB) hf;have one:(∀cs,v≠ .agg cs)→dj v=fA x∧(∀t∈aA v,fz t=true)∧dH 0 tB F h (aA v) x.cells.toList:=by
  intro EJ;have e1:aA v=[v]:=by cases v<;>first|rfl |exact absurd rfl (EJ _)
  have e2:fz v=true:=by cases v<;>first|exact hf|exact absurd rfl (EJ _)
  have e3:dj v=false:=by cases v<;>first|rfl |exact absurd rfl (EJ _)
  have hx:∀a,x≠ .agg a:=by
   rintro a rfl;cases h0 with
   |j=>simp[fz]at e2
   |s hp=>simp[ay]at hp
   |tk _ h1=>simp[Ja]at h1
   |sv _ h1=>simp[Ja]at h1
   |pv _ h1=>simp[Ja]at h1
   |wp _ h1=>simp[VW]at h1
   |agg=>exact EJ _ rfl
  have e4:fA x=false:=by cases x<;>first|rfl |exact absurd rfl (hx _)
  have e5:x.cells= #[x]:=by cases x<;>first|rfl |exact absurd rfl (hx _)
  rw[e1,e3,e4,e5];exact⟨rfl,by simpa using e2,.cons h0 .nil⟩
 cases v with
 |agg cs=>
  obtain⟨a,rfl,h1⟩:=h0.fi;exact⟨rfl,fun t ht=>List.all_eq_true.1 hf t ht,h1⟩
 |_=>exact one (by intro cs e;cases e)
theorem CR.TM {base kd:Nat}:∀{es:List (Value×TV)} {ev:List MapEntry},es.length=ev.length→(∀(i:Nat) e e',es[i]? =some e→ev[i]? =some e'→e'.key=e.1∧(0<kd∧aY e.1=kd)∧CV e.2=true∧VR c ρ F h e.2 e'.val)→CR F h base [] (.es kd es ev)
 |[],[],_,_=>.Jb
 |[],_::_,h,_=>by simp at h
 |_::_,[],h,_=>by simp at h
 |e::es,e'::ev,hl,hc=>by
  obtain⟨h1,h2,h3,h4⟩:=hc 0 e e' rfl rfl;obtain⟨k1,k2,k3⟩:=Je h3 h4;exact .zy (S:=[]) h1 h2 k1 (CR.fzs k3 k2) (CR.TM (by simpa using hl) fun i x x' q1 q2=>hc (i+1) x x' (by simpa using q1) (by simpa using q2))
theorem gY {z:Nat}:∀{es:List (List TV)} {cs:List Value},cs.length=es.length*z→(∀e∈es,e.length=z)→(∀(i j:Nat) e t v,es[i]? =some e→e[j]? =some t→cs[i*z+j]? =some v→VR c ρ F h t v)→dH c ρ F h es.flatten cs
 |[],cs,hl,_,_=>by
  have:cs=[]:=List.length_eq_zero_iff.1 (by simpa using hl);subst this;exact .nil
 |e::es,cs,hl,he,hc=>by
  have hz:=he e List.mem_cons_self;have e1:cs=cs.take z++cs.drop z:=(List.take_append_drop _ _).symm;rw[List.length_cons,Nat.add_mul]at hl;rw[e1,List.flatten_cons];refine dH.append ⟨by simp;omega,fun j t v q1 q2=>?_⟩ (gY (z:=z) (by simp;omega) (fun e Co=>he e (List.mem_cons_of_mem _ Co)) fun i j e t v q1 q2 q3=>?_)
  ·rw[List.getElem?_take]at q2;split at q2
   ·exact hc 0 j e t v rfl q1 (by rw[←q2];congr 1;omega)
   ·cases q2
  ·rw[List.getElem?_drop]at q3;exact hc (i+1) j e t v (by simpa using q1) q2 (by rw[←q3];congr 1;rw[Nat.add_mul];omega)
theorem Zl.len {x y:List TV} (H:Zl x y):y.length=x.length:=by
 induction H with
 |nil=>rfl
 |same _ ih=>simp[ih]
 |zero _ ih=>simp[ih]
theorem Zl.fz {x y:List TV} (H:Zl x y):(∀t∈x,M.fz t=true)→∀t∈y,M.fz t=true:=by
 induction H with
 |nil=>exact fun h=>h
 |same _ ih=>
  intro h t ht;rcases List.mem_cons.1 ht with rfl |ht
  ·exact h _ List.mem_cons_self
  ·exact ih (fun t ht=>h t (List.mem_cons_of_mem _ ht)) t ht
 |zero _ ih=>
  intro h t ht;rcases List.mem_cons.1 ht with rfl |ht
  ·rfl
  ·exact ih (fun t ht=>h t (List.mem_cons_of_mem _ ht)) t ht
theorem Zl.vr {x y:List TV} (H:Zl x y):∀(j:Nat) t',y[j]? =some t'→∃t,x[j]? =some t∧∀v,VR c ρ F h t v→VR c ρ F h t' v:=by
 induction H with
 |nil=>intro j t' h;simp at h
 |same _ ih=>
  intro j t' h;cases j with
  |zero=>simp at h;subst h;exact⟨_,rfl,fun _ h=>h⟩
  |succ j=>simpa using ih j t' (by simpa using h)
 |zero _ ih=>
  intro j t' h;cases j with
  |zero=>
   simp at h;subst h;refine⟨_,rfl,fun v hv=>?_⟩;cases hv with
   |nil=>exact .nil rfl
   |sl _ _ hz=>exact absurd hz (Nat.lt_irrefl 0)
  |succ j=>simpa using ih j t' (by simpa using h)
theorem iW.rel (H:Mem X ρ F o c h) {S:Nat→Ft} (K:MO X ρ F o c h S) {U:List Nat} {i:Li} (L:iW o U i):LiR X ρ F o c h S U i∧∀u∈U,∃y,look o u=some y:=by
 have named:∀{U:List Nat} {m:Nat} {y:TO},eI (CW y m)=true→(LiR X ρ F o c h S U (.b (look o m) y)∧∀u∈U,∃y,look o u=some y)→(∃y0,look o m=some y0)→LiR X ρ F o c h S (m::U) (.c (CW y m) y)∧∀u∈m::U,∃y,look o u=some y:=by
  rintro U m y hp ⟨AI,AJ⟩ ⟨y0,hl⟩;refine⟨fun S0 v hv=>?_,fun u hu=>?_⟩
  ·obtain⟨rfl,sZ⟩:=hv.Fy hp;have hO:=K.b8 m y0 hl;obtain⟨l,eJ⟩:=hO.loc;obtain⟨S1,h1,h2⟩:=AI y0 m _ l hl hO eJ;exact⟨S1,.own h1 (Jd y sZ eJ),by simpa using h2⟩
  ·rcases List.mem_cons.1 hu with rfl |hu
   ·exact⟨y0,hl⟩
   ·exact AJ u hu
 have tD:∀{U:List Nat} {m:Nat} {y:TO},iW o U (.b (look o m) y)→∃y0,look o m=some y0:=by
  intro U m y hL;generalize hq:look o m=q at hL;cases q with
  |none=>cases hL
  |some y0=>exact⟨y0,rfl⟩
 have p0:∀(S0:Ft),S0.Perm (S0++([]:List Nat).flatMap S):=fun S0=>by simp
 induction L with
 |same hy=>obtain rfl:=hy.eq;exact⟨fun S0 v hv=>⟨S0,by
  cases hv with
  |vr hv _=>cases hv
  |cl hv hl=>cases hl;simpa using hv,p0 S0⟩,by simp⟩
 |ptr hL ih=>exact named rfl ih (tD hL)
 |mp hL ih=>exact named (y:=.map _ _) rfl ih (tD hL)
 |mpq hL ih=>exact named (y:=.eT _ _ _) rfl ih (tD hL)
 |tk hL ih=>exact named (y:=.arr _ _ _) rfl ih (tD hL)
 |tkq hL ih=>exact named (y:=.bV _ _ _) rfl ih (tD hL)
 |bg hl hL ih=>obtain rfl:=hl.eq;exact named (y:=.gO _) rfl ih (tD hL)
 |Bk h0=>
  refine⟨fun S0 v hv=>?_,by simp⟩;obtain⟨rfl,sZ⟩:=hv.Fy rfl;refine⟨[],.own (.Bk (aR.1 h0)) ?_,p0 _⟩;cases sZ with
  |nil=>exact .tk om rfl (fun b z len hx=>by cases hx) (fun z hx=>.inl rfl)
  |sl h1 h2 h3=>omega
 |gq h0=>
  refine⟨fun S0 v hv=>?_,by simp⟩;obtain⟨rfl,sZ⟩:=hv.Fy rfl;refine⟨[],.own (.gq (aR.1 h0)) ?_,p0 _⟩;cases sZ with
  |nil=>exact .tk om rfl (fun b z len hx=>by cases hx) (fun z hx=>.inl rfl)
  |sl h1 h2 h3=>omega
 |cells _ ih=>
  refine⟨fun yo n S0 l e hO eJ=>?_,ih.2⟩;cases e;cases hO with
  |cells hb hg ht hc=>
   rw[hb]at eJ;cases eJ;obtain⟨S1,h1,h2⟩:=ih.1 _ _ hc;exact⟨_,.cells hg ht h1,h2.cons _⟩
 |map he=>
  obtain rfl:=he.eq;refine⟨fun yo n S0 l e hO eJ=>?_,by simp⟩;cases e;cases hO with
  |map hb hg hl hc ct=>
   rw[hb]at eJ;cases eJ;exact⟨_,.map hg hl (fun i e e' q1 q2=>let⟨r1,r2,r3,r4⟩:=hc i e e' q1 q2;⟨r1,r2,r3,r4.vu r3⟩) ct,p0 _⟩
 |Py he=>
  obtain rfl:=he.eq;refine⟨fun yo n S0 l e hO eJ=>?_,by simp⟩;cases e;cases hO with
  |map hb hg hl hc ct=>
   rw[hb]at eJ;cases eJ;exact⟨_,.eT hg (CR.TM hl hc) ct,p0 _⟩
 |arr he=>
  obtain rfl:=he.eq;refine⟨fun yo n S0 l e hO eJ=>?_,by simp⟩;cases e;cases hO with
  |nil hb hz=>rw[hb]at eJ;cases eJ;exact⟨_,.Bk hz,p0 _⟩
  |arr hb hg hf ht dS hz hl he gU hc hF=>
   rw[hb]at eJ;cases eJ;exact⟨_,.arr hg hf ht dS hz hl he gU (fun i j e t v q1 q2 q3=>(hc i j e t v q1 q2 q3).dL (gU e (List.mem_of_getElem? q1) t (List.mem_of_getElem? q2))) hF,p0 _⟩
 |aam ha bL Jf=>
  rename_i z w a b l0 x y;have ea:=ha.eq;have eb:=bL.eq;refine⟨fun yo n S0 l e hO eJ=>?_,by simp⟩;cases e;cases hO with
  |nil hb hz=>exact absurd ea (by simp)
  |arr hb hg hf ht dS hz hl he gU hc hF=>
   rw[hb]at eJ;cases eJ;have hlen:a.length=b.length:=by rw[ea,←eb];simp
   have hx:x∈a:=by rw[ea];simp
   have key:∀e'∈b,e'∈a∨e'=y:=fun e' Co=>by
    rw[←eb]at Co;rcases List.mem_append.1 Co with q|q
    ·exact .inl (by rw[ea];exact List.mem_append_left _ q)
    ·exact .inr (by simpa using q)
   have aaw:∀(i j:Nat) e' t',b[i]? =some e'→e'[j]? =some t'→∃e t,a[i]? =some e∧e[j]? =some t∧∀v,VR c ρ F h t v→VR c ρ F h t' v:=fun i j e' t' q1 q2=>by
    rw[←eb]at q1;by_cases hi:i<l0.length
    ·rw[List.getElem?_append_left hi]at q1;exact⟨e',t',by rw[ea,List.getElem?_append_left hi];exact q1,q2,fun _ h=>h⟩
    ·rw[List.getElem?_append_right om]at q1;have hi0:i - l0.length=0:=by have:=(List.getElem?_eq_some_iff.1 q1).1;simp at this;omega
     rw[hi0]at q1;simp at q1;subst q1;obtain⟨t,q3,q4⟩:=Jf.vr j t' q2;exact⟨x,t,by rw[ea,List.getElem?_append_right om,hi0];rfl,q3,q4⟩
   have yU:∀e∈b,∀t∈e,fz t=true:=fun e' Co=>by
    rcases key e' Co with q|rfl
    ·exact gU e' q
    ·exact Jf.fz (gU x hx)
   rw[hlen]at hl ⊢;exact⟨_,.arr hg hf ht dS hz hl (fun e' Co=>by
    rcases key e' Co with q|rfl
    ·exact he e' q
    ·rw[Jf.len];exact he x hx) yU (fun i j e' t' v q1 q2 q3=>by
    obtain⟨e,t,r1,r2,r3⟩:=aaw i j e' t' q1 q2;exact(r3 v (hc i j e t v r1 r2 q3)).dL (yU e' (List.mem_of_getElem? q1) t' (List.mem_of_getElem? q2))) hF,p0 _⟩
 |Pz he=>
  obtain rfl:=he.eq;refine⟨fun yo n S0 l e hO eJ=>?_,by simp⟩;cases e;cases hO with
  |nil hb hz=>rw[hb]at eJ;cases eJ;exact⟨_,.gq hz,p0 _⟩
  |arr hb hg hf ht dS hz hl he gU hc hF=>
   rw[hb]at eJ;cases eJ;refine⟨_,.bV hg hf ht dS hz hl he (CR.fzs (gY hl he fun i j e t v q1 q2 q3=>(hc i j e t v q1 q2 q3).dL (gU e (List.mem_of_getElem? q1) t (List.mem_of_getElem? q2))) fun t ht=>?_),p0 _⟩;obtain⟨e,h1,h2⟩:=List.mem_flatten.1 ht;exact gU e h1 t h2
 |bV hs he _ ih=>
  refine⟨fun yo n S0 l e hO eJ=>?_,ih.2⟩;cases e;obtain rfl:=he.eq;cases hO with
  |gq hb hz=>rw[hb]at eJ;cases eJ;cases hs;exact⟨_,.gq hz,by
   obtain⟨S1,h1,h2,_⟩:=ih.1 [] 1 [] [] (by simp) (by simp) (by simp) .nil;cases h1;exact h2⟩
  |bV hb hg hf ht dS hz hl he bU jK hc=>
   rw[hb]at eJ;cases eJ;obtain⟨S1,h1,h2,h3,h4⟩:=ih.1 _ _ _ _ he bU jK hc;have:=CR.bV (S:=S1) hg hf ht dS hz (by rw[hl,h4]) (fun e he=>(h3 e he).1) (h1.Fx fun t ht=>by
    obtain⟨e,q1,q2⟩:=List.mem_flatten.1 ht;exact(h3 e q1).2 t q2)
   rw[h4]at this;exact⟨_,this,h2.cons _⟩
 |I8 hs he nq _ ih=>
  refine⟨fun yo n S0 l e hO eJ=>?_,ih.2⟩;cases e;obtain rfl:=he.eq;cases hO with
  |gq hb hz=>rw[hb]at eJ;cases eJ;cases hs;exact⟨_,.Bk hz,by
   obtain⟨S1,h1,h2,_⟩:=ih.1 [] 1 [] [] (by simp) (by simp) (by simp) .nil;cases h1;exact h2⟩
  |bV hb hg hf ht dS hz hl he bU jK hc=>
   rw[hb]at eJ;cases eJ;obtain⟨S1,h1,h2,h3,h4⟩:=ih.1 _ _ _ _ he bU jK hc;have:=CR.bV (S:=S1) hg hf ht dS hz (by rw[hl,h4]) (fun e he=>(h3 e he).1) (h1.Fx fun t ht=>by
    obtain⟨e,q1,q2⟩:=List.mem_flatten.1 ht;exact(h3 e q1).2 t q2)
   rw[h4]at this;exact⟨_,this.I8 nq,h2.cons _⟩
 |eT hs he _ ih=>
  refine⟨fun yo n S0 l e hO eJ=>?_,ih.2⟩;cases e;obtain rfl:=he.eq;cases hO with
  |eT hb hg bU hc ct=>
   rw[hb]at eJ;cases eJ;obtain⟨S1,h1,h2,h3⟩:=ih.1 _ _ _ _ bU hc;exact⟨_,.eT hg (h1.Fx h3) ct,h2.cons _⟩
 |gO he=>
  obtain rfl:=he.eq;refine⟨fun yo n S0 l e hO eJ=>?_,by simp⟩;cases e;cases hO with
  |gO hb hg=>rw[hb]at eJ;cases eJ;exact⟨_,.gO hg,p0 _⟩
 |Xb=>exact⟨fun S0 vs hv=>by cases hv;exact⟨[],.nil,by simp⟩,by simp⟩
 |Xc _ _ AI AJ=>
  rename_i U1 U2 a y l m _ _;refine⟨fun S0 vs hv=>?_,fun u hu=>(List.mem_append.1 hu).elim (AI.2 u) (AJ.2 u)⟩;have split:∃A B v mZ,S0=A++B∧vs=v::mZ∧cI c ρ F h X.base A [a] [v]∧cI c ρ F h X.base B l mZ:=by
   cases hv with
   |vr h1 h2=>exact⟨[],_,_,_,rfl,rfl,.vr h1 .nil,h2⟩
   |cl h1 h2=>exact⟨_,_,_,_,rfl,rfl,by simpa using cI.cl h1 .nil,h2⟩
  obtain⟨A,B,v,mZ,rfl,rfl,h1,h2⟩:=split;obtain⟨A1,k1,k2⟩:=AI.1 A v h1;obtain⟨B1,k3,k4⟩:=AJ.1 B mZ h2;refine⟨A1++B1,.cons k1 k3,(k2.append k4).trans ?_⟩;rw[List.flatMap_append];simp only[List.append_assoc];refine List.Perm.append_left _ ?_;rw[←List.append_assoc,←List.append_assoc];exact List.perm_append_comm.append_right _
 |kfz hv hf _ ih=>
  rename_i U1 a b l m _;refine⟨fun S0 vs yC=>?_,ih.2⟩;have hpa:eI a=true:=by cases hv<;>first|rfl |simp[M.fz]at hf
  have split:∃v mZ,vs=v::mZ∧VR c ρ F h a v∧cI c ρ F h X.base S0 l mZ:=by
   cases yC with
   |vr h1 h2=>exact⟨_,_,rfl,h1,h2⟩
   |cl h1 h2=>
    cases h1 with
    |fz Xm sZ=>exact⟨_,_,rfl,sZ.dL Xm,h2⟩
    |own=>simp[eI]at hpa
  obtain⟨v,mZ,rfl,h1,h2⟩:=split;obtain⟨S1,k1,k2⟩:=ih.1 S0 mZ h2;exact⟨S1,.cons (S:=[]) (.fz hf ((pG (zf:=fun _=>0) H _ _ _ hv h1).dL hf)) k1,k2⟩
 |q0=>exact⟨fun es z cs S0 hz bU _ hc=>⟨S0,hc,p0 S0,fun e he=>⟨hz e he,bU e he⟩,rfl⟩,by simp⟩
 |q1 hL ih=>
  rename_i U1 i a b;refine⟨fun es z cs S0 hz bU jK hc=>?_,ih.2⟩;obtain⟨k1,k2⟩:=jK (i,a) (by simp);simp only at k1 k2;obtain⟨f1,f2⟩:=hL.Bv _ _ rfl;have jj:∀e∈es.set i a,e.length=z:=fun e he=>by
   rcases List.mem_or_eq_of_mem_set he with h1|rfl
   ·exact hz e h1
   ·exact k2
  obtain⟨r1,r2⟩:=eZ jj (i:=i) (e:=a) (by simp[k1]);obtain⟨S1,q1,q2⟩:=cI.Xk (l2:=b) (V:=U1.flatMap S) hc (i*z) z fun S2 h2=>by
   have e:((cF es [(i,a)]).flatten.drop (i*z)).take z=a:=r1;rw[e]at h2;obtain⟨S3,h3,h4⟩:=ih.1 S2 _ h2;exact⟨S3,cI.qQ h3 _ _ rfl,h4⟩
  have e2:(cF es [(i,b)]).flatten=(cF es [(i,a)]).flatten.take (i*z)++(b++((cF es [(i,a)]).flatten.drop (i*z)).drop z):=by
   have:=jC (e:=b) jj (i:=i) (by simpa using k1);rw[List.set_set]at this;exact this
  rw[←e2]at q1;refine⟨S1,q1,q2,fun e he=>?_,by simp[cF]⟩;rcases List.mem_or_eq_of_mem_set he with h1|rfl
  ·exact⟨hz e h1,bU e h1⟩
  ·exact⟨om,f2⟩
 |q2 Xd hL hR ih ihr=>
  rename_i U1 U2 i k a b a' b';refine⟨fun es z cs S0 hz bU jK hc=>?_,fun u hu=>(List.mem_append.1 hu).elim (ih.2 u) (ihr.2 u)⟩;obtain⟨k1,k2⟩:=jK (i,a) (by simp);obtain⟨l1,l2⟩:=jK (k,a') (by simp);simp only at k1 k2 l1 l2;obtain⟨f1,f2⟩:=hL.Bv _ _ rfl;have hc:cI c ρ F h X.base S0 ((es.set k a').set i a).flatten cs:=hc;have jj:∀e∈(es.set k a').set i a,e.length=z:=fun e he=>by
   rcases List.mem_or_eq_of_mem_set he with h1|rfl
   ·rcases List.mem_or_eq_of_mem_set h1 with h1|rfl
    ·exact hz e h1
    ·exact l2
   ·exact k2
  obtain⟨r1,r2⟩:=eZ jj (i:=i) (e:=a) (by simp[k1]);obtain⟨S1,q1,q2⟩:=cI.Xk (l2:=b) (V:=U1.flatMap S) hc (i*z) z fun S2 h2=>by
   have e:(((es.set k a').set i a).flatten.drop (i*z)).take z=a:=r1;rw[e]at h2;obtain⟨S3,h3,h4⟩:=ih.1 S2 _ h2;exact⟨S3,cI.qQ h3 _ _ rfl,h4⟩
  have e2:((es.set k a').set i b).flatten=((es.set k a').set i a).flatten.take (i*z)++(b++(((es.set k a').set i a).flatten.drop (i*z)).drop z):=by
   have:=jC (e:=b) jj (i:=i) (by simpa using k1);rw[List.set_set]at this;exact this
  rw[←e2,List.set_comm _ _ (fun e=>Xd e.symm)]at q1;obtain⟨S2,w1,w2,w3,w4⟩:=ihr.1 (es.set i b) z cs S1 (fun e he=>by
   rcases List.mem_or_eq_of_mem_set he with h1|rfl
   ·exact hz e h1
   ·omega) (fun e he=>by
   rcases List.mem_or_eq_of_mem_set he with h1|rfl
   ·exact bU e h1
   ·exact f2) (fun p hp=>by simp only[List.mem_singleton]at hp;subst hp;exact⟨by simpa using l1,l2⟩) q1
  have e4:cF (es.set i b) [(k,b')]=cF es [(i,b),(k,b')]:=List.set_comm _ _ Xd;rw[e4]at w1 w3 w4;refine⟨S2,w1,?_,w3,by rw[w4];simp⟩;rw[List.flatMap_append,←List.append_assoc];exact w2.trans (q2.append_right _)
 |m0=>exact⟨fun es kd ev S0 bU hc=>⟨S0,hc,p0 S0,bU⟩,by simp⟩
 |m1 ha hL ih=>
  rename_i U1 k a b;refine⟨fun es kd ev S0 bU hc=>?_,ih.2⟩;obtain⟨f1,f2⟩:=hL.Bv _ _ rfl;obtain⟨S1,q1,q2⟩:=iy.put (c':=c) (ρ':=ρ) (V:=U1.flatMap S) ha (fun S2 x h2=>by
   obtain⟨S3,h3,h4⟩:=ih.1 S2 _ h2;exact⟨S3,cI.qQ h3 _ _ rfl,h4⟩) bU hc
  refine⟨S1,q1,q2,fun e he=>?_⟩;rcases wJ he with rfl |h1
  ·exact f2
  ·exact bU e h1
theorem vd.rel (H:Mem X ρ F o c h) {S:Nat→Ft} (K:MO X ρ F o c h S) {U:List Nat} {a b:List TV} (L:vd ids o U a b):∀{S0:Ft} {vs:List Value},cI c ρ F h X.base S0 a vs→(∃S1,cI ids.length (fk ids zf ρ) F h X.base S1 b vs∧S1.Perm (S0++U.flatMap S))∧∀u∈U,∃y,look o u=some y:=by
 induction L with
 |nil=>intro S0 vs hv;cases hv;exact⟨⟨[],.nil,by simp⟩,by simp⟩
 |own hL _ ih=>
  rename_i U1 U2 a y l m _;intro S0 vs hv;have split:∃A B v mZ,S0=A++B∧vs=v::mZ∧cI c ρ F h X.base A [a] [v]∧cI c ρ F h X.base B l mZ:=by
   cases hv with
   |vr h1 h2=>exact⟨[],_,_,_,rfl,rfl,.vr h1 .nil,h2⟩
   |cl h1 h2=>exact⟨_,_,_,_,rfl,rfl,by simpa using cI.cl h1 .nil,h2⟩
  obtain⟨A,B,v,mZ,rfl,rfl,h1,h2⟩:=split;obtain⟨g1,g2⟩:=hL.rel H K;obtain⟨A1,k1,k2⟩:=g1 A v h1;obtain⟨⟨B1,k3,k4⟩,g3⟩:=ih h2;refine⟨⟨A1++B1,.cl k1 k3,(k2.append k4).trans ?_⟩,fun u hu=>(List.mem_append.1 hu).elim (g2 u) (g3 u)⟩;rw[List.flatMap_append];simp only[List.append_assoc];refine List.Perm.append_left _ ?_;rw[←List.append_assoc,←List.append_assoc];exact List.perm_append_comm.append_right _
 |v hV hp _ ih=>
  rename_i U1 a b l m _;intro S0 vs hv;cases hv with
  |vr h1 h2=>
   obtain⟨⟨S1,k1,k2⟩,k3⟩:=ih h2;exact⟨⟨S1,.vr (pG H _ _ _ hV h1) k1,k2⟩,k3⟩
  |cl h1 h2=>
   cases h1 with
   |fz Xm sZ=>
    obtain⟨⟨S1,k1,k2⟩,k3⟩:=ih h2;exact⟨⟨S1,.vr (pG H _ _ _ hV (sZ.dL Xm)) k1,k2⟩,k3⟩
   |own=>simp[eI]at hp
theorem vd.len {U:List Nat} {a b:List TV} (L:vd ids o U a b):a.length=b.length:=by
 induction L with
 |nil=>rfl
 |own _ _ ih=>simp[ih]
 |v _ _ _ ih=>simp[ih]
theorem kD:∀{ids:List (Option Nat)} {k m:Nat},iu c ids=true→ids[k]? =some (some m)→m<c
 |[],k,m,_,h=>by simp at h
 |none::l,k,m,hi,h=>by
  cases k with
  |zero=>simp at h
  |succ k=>exact kD (ids:=l) hi (by simpa using h)
 |some m'::l,k,m,hi,h=>by
  simp only[iu,Bool.and_eq_true,aR]at hi;cases k with
  |zero=>simp at h;subst h;exact hi.1.1
  |succ k=>exact kD (ids:=l) hi.2 (by simpa using h)
theorem mu:∀{ids:List (Option Nat)} {k k' m:Nat},iu c ids=true→ids[k]? =some (some m)→ids[k']? =some (some m)→k=k'
 |[],k,k',m,_,h,_=>by simp at h
 |none::l,k,k',m,hi,h,h'=>by
  cases k with
  |zero=>simp at h
  |succ k=>cases k' with
   |zero=>simp at h'
   |succ k'=>exact congrArg (· +1) (mu (ids:=l) hi (by simpa using h) (by simpa using h'))
 |some m'::l,k,k',m,hi,h,h'=>by
  simp only[iu,Bool.and_eq_true,aR,Bool.not_eq_true',List.contains_eq_mem]at hi;have hn:some m'∉l:=by simpa using hi.1.2
  cases k with
  |zero=>cases k' with
   |zero=>rfl
   |succ k'=>
    simp at h h';subst h;exact absurd (List.mem_of_getElem? h') hn
  |succ k=>cases k' with
   |zero=>
    simp at h h';subst h';exact absurd (List.mem_of_getElem? h) hn
   |succ k'=>exact congrArg (· +1) (mu (ids:=l) hi.2 (by simpa using h) (by simpa using h'))
theorem zA:∀{n k:Nat} {ids:List (Option Nat)},oP n k ids=true→∀i,i<n→ids[i]? =some (some (k+i))
 |0,k,ids,_,i,hi=>by omega
 |n+1,k,[],h,i,hi=>by simp[oP]at h
 |n+1,k,none::l,h,i,hi=>by simp[oP]at h
 |n+1,k,some m::l,h,i,hi=>by
  simp only[oP,Bool.and_eq_true,beq_iff]at h;obtain⟨rfl,h2⟩:=h;cases i with
  |zero=>simp
  |succ i=>
   have:=zA h2 i om;simp only[List.getElem?_cons_succ,this]
   congr 2;omega
def Jg:TO→Nat
 | .arr z _ _=>z
 | .bV z _ _=>z
 |_=>0
def Fz (o1:Ob) (n:Nat):Nat:=match look o1 n with|some y=>Jg y|none=>0
theorem gW {base z i:Nat} {S:Ft} {es:List (List TV)} {x:List TV} {cs:List Value} (hz:∀e∈es,e.length=z) (hi:i<es.length) (H:cI c ρ F h base S (es.set i x).flatten cs):
 ∃S1 S2 S3 v1 v2 v3,S=S1++(S2++S3)∧cs=v1++(v2++v3)∧cI c ρ F h base S1 (es.flatten.take (i*z)) v1∧cI c ρ F h base S2 x v2∧cI c ρ F h base S3 ((es.flatten.drop (i*z)).drop z) v3:=by
 rw[jC hz hi]at H;have h1:(es.flatten.take (i*z)).length=i*z:=by
  obtain⟨e,he⟩:∃e,es[i]? =some e:=⟨_,List.getElem?_eq_getElem hi⟩;have:=(eZ hz he).2;rw[Nat.add_mul]at this;rw[List.length_take];omega
 obtain⟨S1,R,rfl,k1,k2⟩:=H.split (i*z);rw[List.take_append_of_le_length om,List.take_of_length_le om]at k1;rw[List.drop_append,List.drop_eq_nil_of_le om,h1,Nat.sub_self,List.drop_zero,List.nil_append]at k2;obtain⟨S2,S3,rfl,k3,k4⟩:=k2.split x.length;rw[List.take_append_of_le_length (Nat.le_refl _),List.take_of_length_le (Nat.le_refl _)]at k3;rw[List.drop_append,List.drop_eq_nil_of_le (Nat.le_refl _),Nat.sub_self,List.drop_zero,List.nil_append]at k4;exact⟨S1,S2,S3,_,_,_,rfl,by rw[List.take_append_drop,List.take_append_drop],k1,k3,k4⟩
theorem kf {base z i:Nat} {S1 S2 S3:Ft} {es:List (List TV)} {y:List TV} {v1 v2 v3:List Value} (hz:∀e∈es,e.length=z) (hi:i<es.length)
 (h1:cI c ρ F h base S1 (es.flatten.take (i*z)) v1) (h2:cI c ρ F h base S2 y v2) (h3:cI c ρ F h base S3 ((es.flatten.drop (i*z)).drop z) v3):cI c ρ F h base (S1++(S2++S3)) (es.set i y).flatten (v1++(v2++v3)):=by
 rw[jC hz hi];exact h1.join (h2.join h3)
theorem qS {es:List (List TV)} (bU:∀e∈es,∀t∈e,lZ t=true):∀t∈es.flatten,lZ t=true:=fun t ht=>by
 obtain⟨e,h1,h2⟩:=List.mem_flatten.1 ht;exact bU e h1 t h2
theorem oj.PC {t:TV} (h:fz t=true):oj ids o (.v t) (.v t):=by
 cases t with
 |s v=>exact .s Lz.rfl
 |sl z es fl=>exact .sl (by simp) (by simp) Lz.rfl
 |mT t v=>
  cases v with
  |s v=>exact .mT (.s Lz.rfl)
  |_=>simp[fz]at h
 |dc g a c=>
  cases a with
  |nil=>
   cases c with
   |nil=>exact .dc .nil .nil
   |cons=>simp[fz]at h
  |cons=>simp[fz]at h
 |_=>simp[fz]at h
theorem vd.HD:∀{l:List TV},(∀t∈l,lZ t=true)→vd ids o [] l l
 |[],_=>.nil
 |t::l,h=>by
  have ht:=h t List.mem_cons_self;have ih:=vd.HD fun x hx=>h x (List.mem_cons_of_mem _ hx);by_cases hq:eI t=true
  ·refine .v (oj.PC ?_) hq ih;cases t<;>first|exact ht|(simp[eI]at hq)
  ·cases t with
   |own y=>exact .own (.same Lz.rfl) ih
   |_=>simp[eI]at hq
theorem vd.append {U:List Nat} {a b:List TV} (L:vd ids o U a b) {a' b':List TV} (L':vd ids o [] a' b'):vd ids o U (a++a') (b++b'):=by
 induction L with
 |nil=>exact L'
 |own h _ ih=>exact .own h ih
 |v h hp _ ih=>exact .v h hp ih
inductive nV (ids:List (Option Nat)) (o:Ob):List (List TV)→List (List TV)→Prop
 |nil:nV ids o [] []
 |cons {x y:List TV} {l m:List (List TV)} (h:vd ids o [] x y) (k:nV ids o l m):nV ids o (x::l) (y::m)
theorem nV.refl:∀{es:List (List TV)},(∀e∈es,∀t∈e,lZ t=true)→nV ids o es es
 |[],_=>.nil
 |e::_,h=>.cons (vd.HD (h e List.mem_cons_self)) (nV.refl fun x hx=>h x (List.mem_cons_of_mem _ hx))
theorem nV.set {l m:List (List TV)} (R:nV ids o l m) {x y:List TV} (h:vd ids o [] x y):∀i:Nat,nV ids o (l.set i x) (m.set i y):=by
 induction R with
 |nil=>intro i;exact .nil
 |cons h1 k ih=>
  intro i;cases i with
  |zero=>exact .cons h k
  |succ i=>exact .cons h1 (ih i)
theorem nV.flatten {l m:List (List TV)} (R:nV ids o l m):vd ids o [] l.flatten m.flatten:=by
 induction R with
 |nil=>exact .nil
 |cons h _ ih=>rw[List.flatten_cons,List.flatten_cons];exact h.append ih
theorem zu.rows {op I9:List (Nat×List TV)} (L:zu ids o op I9) {es:List (List TV)} (bU:∀e∈es,∀t∈e,lZ t=true):nV ids o (cF es op) (cF es I9)∧∀p∈I9,∃x,(p.1,x)∈op∧x.length=p.2.length:=by
 induction L with
 |nil=>exact⟨.refl bU,by simp⟩
 |cons h _ ih=>
  refine⟨ih.1.set h _,fun p hp=>?_⟩;rcases List.mem_cons.1 hp with rfl |hp
  ·exact⟨_,List.mem_cons_self,h.len⟩
  ·obtain⟨x,q1,q2⟩:=ih.2 p hp;exact⟨x,List.mem_cons_of_mem _ q1,q2⟩
theorem Bm.rel (H:Mem X ρ F o c h) {S:Nat→Ft} (K:MO X ρ F o c h S) {U:List Nat} {q:Option (Option TO)} {y:TO} (L:Bm ids o U q y) {n:Nat} (hq:q=Bl ids o n) (O8:zf n=Jg y):
 ∃S1,OR ids.length (fk ids zf ρ) F h X.base n S1 y∧((∃m,ids[n]? =some (some m)∧(∃y,look o m=some y)∧S1.Perm ((m::U).flatMap S))∨(S1=[]∧U=[]))∧∀u∈U,∃y,look o u=some y:=by
 have src:∀y0,some (some y0)=Bl ids o n→∃m,ids[n]? =some (some m)∧look o m=some y0:=by
  intro y0 hs;unfold Bl at hs;split at hs
  ·rename_i m hm;split at hs
   ·rename_i y1 hy;cases hs;exact⟨m,hm,hy⟩
   ·cases hs
  ·cases hs
  ·cases hs
 have isn:some none=Bl ids o n→ids[n]? =some none:=by
  intro hs;unfold Bl at hs;split at hs
  ·split at hs<;>cases hs
  ·assumption
  ·cases hs
 have fin:∀{U:List Nat} {y y0:TO},some (some y0)=Bl ids o n→(∀m S0,ids[n]? =some (some m)→look o m=some y0→fk ids zf ρ n=ρ m→OR c ρ F h X.base m S0 y0→∃S1,OR ids.length (fk ids zf ρ) F h X.base n S1 y∧S1.Perm (S0++U.flatMap S))→(∀u∈U,∃y,look o u=some y)→
  ∃S1,OR ids.length (fk ids zf ρ) F h X.base n S1 y∧((∃m,ids[n]? =some (some m)∧(∃y,look o m=some y)∧S1.Perm ((m::U).flatMap S))∨(S1=[]∧U=[]))∧∀u∈U,∃y,look o u=some y:=by
  intro U y y0 hs hf hU;obtain⟨m,h1,h2⟩:=src y0 hs;obtain⟨S1,k1,k2⟩:=hf m _ h1 h2 (by simp[fk,h1]) (K.b8 m y0 h2);exact⟨S1,k1,.inl ⟨m,h1,⟨y0,h2⟩,by simpa using k2⟩,hU⟩
 have p0:∀(S0:Ft),S0.Perm (S0++([]:List Nat).flatMap S):=fun S0=>by simp
 have closed:∀{U:List Nat} {y y0:TO},some (some y0)=Bl ids o n→iW o U (.b (some y0) y)→∃S1,OR ids.length (fk ids zf ρ) F h X.base n S1 y∧((∃m,ids[n]? =some (some m)∧(∃y,look o m=some y)∧S1.Perm ((m::U).flatMap S))∨(S1=[]∧U=[]))∧∀u∈U,∃y,look o u=some y:=by
  intro U y y0 hs hL;obtain⟨g1,g2⟩:=hL.rel H K;refine fin hs (fun m S0 h1 h2 fj hO=>?_) g2;obtain⟨l,hl⟩:=hO.loc;obtain⟨S1,k1,k2⟩:=g1 y0 m S0 l rfl hO hl;exact⟨S1,OR.qQ k1 (fj.trans hl),k2⟩
 cases L with
 |cells hN=>
  obtain⟨m,h1,h2⟩:=src _ hq;have hO:=K.b8 m _ h2;refine fin hq (fun m' S0 _ _ fj PD=>?_) ?_
  ·cases PD with
   |cells hb hg ht hc=>
    obtain⟨⟨S1,k1,k2⟩,_⟩:=hN.rel (zf:=zf) H K hc;exact⟨_,.cells (fj.trans hb) hg ht k1,k2.cons _⟩
  ·generalize S m=S0 at hO;cases hO with
   |cells hb hg ht hc=>exact(hN.rel (zf:=zf) H K hc).2
 |map he=>exact closed hq (.map he)
 |Py he=>exact closed hq (.Py he)
 |arr he=>exact closed hq (.arr he)
 |Pz he=>exact closed hq (.Pz he)
 |bV hs he hL=>exact closed hq (.bV hs he hL)
 |I8 hs he nq hL=>exact closed hq (.I8 hs he nq hL)
 |eT hs he hL=>exact closed hq (.eT hs he hL)
 |gO he=>exact closed hq (.gO he)
 |aan he hi hN=>
  rename_i z a b i j x w;obtain rfl:=he.eq;obtain rfl:=hi.eq;obtain⟨m,h1,h2⟩:=src _ hq;have hO:=K.b8 m _ h2;refine fin hq (fun m' S0 _ _ fj PD=>?_) ?_
  ·cases PD with
   |bV hb hg hf ht dS hz hl he bU jK hc=>
    obtain⟨o1,o2⟩:=jK (i,x) (by simp);obtain⟨S1,S2,S3,v1,v2,v3,rfl,rfl,a1,a2,a3⟩:=gW he o1 hc;obtain⟨⟨S4,k1,k2⟩,_⟩:=hN.rel (zf:=zf) H K a2;have fc:=qS bU;have:=kf he o1 (a1.conv (c':=ids.length) (ρ':=fk ids zf ρ) fun t ht=>fc t (List.mem_of_mem_take ht)) k1 (a3.conv fun t ht=>fc t (List.mem_of_mem_drop (List.mem_of_mem_drop ht)));refine⟨_,.bV (fj.trans hb) hg hf ht dS hz hl he bU (fun p hp=>?_) this,?_⟩
    ·simp only[List.mem_singleton]at hp;subst hp;exact⟨o1,by rw[←hN.len];exact o2⟩
    ·refine List.Perm.cons _ ((List.Perm.append_left S1 (k2.append_right S3)).trans ?_);show List.Perm _ ((S1++(S2++S3))++U.flatMap S);simp only[List.append_assoc];exact(List.perm_append_comm.append_left _).append_left _
  ·generalize S m=S0 at hO;cases hO with
   |bV hb hg hf ht dS hz hl he bU jK hc=>
    obtain⟨o1,o2⟩:=jK (i,x) (by simp);obtain⟨S1,S2,S3,v1,v2,v3,rfl,rfl,a1,a2,a3⟩:=gW he o1 hc;exact(hN.rel (zf:=zf) H K a2).2
 |aao he hk ha hN=>
  rename_i kd a b k k' x w;obtain rfl:=he.eq;obtain rfl:=hk.eq;obtain⟨m,h1,h2⟩:=src _ hq;have hO:=K.b8 m _ h2;have hU:∀u∈U,∃y,look o u=some y:=by
   generalize S m=S0 at hO;cases hO with
   |eT hb hg bU hc ct=>
    have key:∀{es:List (Value×TV)} {S0:Ft} {ev:List MapEntry},iy c ρ F h X.base kd S0 (dE es k x) ev→∃S2 vs,cI c ρ F h X.base S2 (aA x) vs:=by
     intro es
     induction es with
     |nil=>intro S0 ev hE;cases hE with|cons _ _ _ hv _=>exact⟨_,_,hv⟩
     |cons e es ih=>
      intro S0 ev hE;unfold dE at hE;split at hE
      ·cases hE with|cons _ _ _ hv _=>exact⟨_,_,hv⟩
      ·cases hE with|cons _ _ _ _ hl=>exact ih hl
    obtain⟨S2,vs,hv⟩:=key hc;exact(hN.rel (zf:=zf) H K hv).2
  refine fin hq (fun m' S0 _ _ fj PD=>?_) hU;cases PD with
  |eT hb hg bU hc ct=>
   obtain⟨S1,q1,q2⟩:=iy.put (c':=ids.length) (ρ':=fk ids zf ρ) (V:=U.flatMap S) ha (fun S2 x h2=>(hN.rel (zf:=zf) H K h2).1) bU hc;exact⟨_,.eT (fj.trans hb) hg bU q1 ct,q2.cons _⟩
 |PA he hN=>
  rename_i z a b op I9;obtain rfl:=he.eq;refine fin hq (fun m' S0 _ _ fj PD=>?_) (by simp);cases PD with
  |bV hb hg hf ht dS hz hl he bU jK hc=>
   obtain⟨r1,r2⟩:=hN.rows bU;obtain⟨⟨S1,k1,k2⟩,_⟩:=r1.flatten.rel (zf:=zf) H K hc;refine⟨_,.bV (fj.trans hb) hg hf ht dS hz hl he bU (fun p hp=>?_) k1,k2.cons _⟩;obtain⟨x,q1,q2⟩:=r2 p hp;obtain⟨w1,w2⟩:=jK _ q1;exact⟨w1,by rw[←q2];exact w2⟩
  |gq hb hz=>
   cases hN;exact⟨[],.gq (fj.trans hb) hz,by simp⟩
 |new hz=>
  have hi:=isn hq;exact⟨[],.nil (by simp[fk,hi,O8,Jg]) (aR.1 hz),.inr ⟨rfl,rfl⟩,by simp⟩
 |aap hz=>
  have hi:=isn hq;exact⟨[],.gq (by simp[fk,hi,O8,Jg]) (aR.1 hz),.inr ⟨rfl,rfl⟩,by simp⟩
 |aaq Bb he hx hv=>
  rename_i z a b i j x y e e';obtain rfl:=he.eq;obtain⟨g1,g2⟩:=hx.rel H K;obtain⟨f1,f2⟩:=hx.Bv _ _ rfl;refine fin hq (fun m' S0 _ _ fj PD=>?_) g2;cases PD with
  |bV hb hg hf ht dS hz hl HE bU jK hc=>
   obtain⟨o1,o2⟩:=jK (i,x) (by simp);obtain⟨o3,o4⟩:=jK (j,e) (by simp);have o2:x.length=z:=o2;have Xn:∀r∈a.set j e,r.length=z:=fun r hr=>by
    rcases List.mem_or_eq_of_mem_set hr with q|q
    ·exact HE r q
    ·rw[q];exact o4
   have TN:∀r∈a.set i y,r.length=z:=fun r hr=>by
    rcases List.mem_or_eq_of_mem_set hr with q|q
    ·exact HE r q
    ·rw[q,←f1];exact o2
   have Xo:∀r∈a.set i y,∀t∈r,lZ t=true:=fun r hr=>by
    rcases List.mem_or_eq_of_mem_set hr with q|q
    ·exact bU r q
    ·rw[q];exact f2
   obtain⟨S1,S2,S3,v1,v2,v3,rfl,rfl,a1,a2,a3⟩:=gW (x:=x) Xn (by rw[List.length_set];exact o1) hc;obtain⟨S4,k1,k2⟩:=g1 _ _ a2;have hj:=kf Xn (by rw[List.length_set];exact o1) a1 (cI.qQ k1 _ _ rfl) a3;rw[List.set_comm _ _ (Ne.symm Bb)]at hj;obtain⟨T1,T2,T3,w1,w2,w3,q1,q2,b1,b2,b3⟩:=gW TN (by rw[List.length_set];exact o3) hj;obtain⟨⟨T4,l1,l2⟩,_⟩:=hv.rel (zf:=zf) H K b2;have fc:=qS Xo;have Xp:=kf TN (by rw[List.length_set];exact o3) (b1.conv (c':=ids.length) (ρ':=fk ids zf ρ) fun t ht=>fc t (List.mem_of_mem_take ht)) l1 (b3.conv fun t ht=>fc t (List.mem_of_mem_drop (List.mem_of_mem_drop ht)))
   rw[←q2]at Xp;refine⟨_,.bV (by rw[List.length_set];exact fj.trans hb) hg hf ht dS hz (by rw[List.length_set];exact hl) TN Xo (fun p hp=>?_) Xp,?_⟩
   ·simp only[List.mem_singleton]at hp;subst hp;exact⟨by rw[List.length_set];exact o3,by rw[←hv.len];exact o4⟩
   ·refine List.Perm.cons _ ?_;have p1:(T1++(T4++T3)).Perm (S1++(S4++S3)):=by
     rw[q1];exact List.Perm.append_left T1 ((by simpa using l2:T4.Perm T2).append_right T3)
    refine p1.trans ((List.Perm.append_left S1 (k2.append_right S3)).trans ?_);show List.Perm _ ((S1++(S2++S3))++U.flatMap S);simp only[List.append_assoc];exact(List.perm_append_comm.append_left _).append_left _
theorem zB:∀{l:List Nat},Bn l=true→l.Nodup
 |[],_=>List.nodup_nil
 |n::l,h=>by
  simp only[Bn,Bool.and_eq_true,Bool.not_eq_true',List.contains_eq_mem,decide_eq_false_iff_not]at h;exact List.nodup_cons.2 ⟨h.1,zB h.2⟩
theorem Jh {U:List Nat} (h:lQ ids U=true):U.Nodup∧∀u∈U,∀k:Nat,ids[k]? ≠some (some u):=by
 simp only[lQ,Bool.and_eq_true,List.all_eq_true,Bool.not_eq_true',List.contains_eq_mem,decide_eq_false_iff_not]at h;exact⟨zB h.1,fun u hu k hk=>h.2 u hu (List.mem_of_getElem? hk)⟩
theorem Hm.TP (_:Mem X ρ F o c h) {S:Nat→Ft} (_:MO X ρ F o c h S) {U:List Nat} {o1:Ob} (L:Hm ids o U o1):U.Nodup→∃Un:Nat→List Nat,(∀n,∀u∈Un n,u∈U)∧(∀n,(Un n).Nodup)∧(∀n1 n2 u,u∈Un n1→u∈Un n2→n1=n2)∧∀n y,look o1 n=some y→Bm ids o (Un n) (Bl ids o n) y:=by
 induction L with
 |nil=>intro _;exact⟨fun _=>[],by simp,by simp,by simp,fun n y hl=>by cases hl⟩
 |cons hT _ ih=>
  rename_i U1 U2 m y l _;intro lq;obtain⟨n1,n2,n3⟩:=List.nodup_append.1 lq;obtain⟨Un,k1,k2,k3,k4⟩:=ih n2;refine⟨fun n=>if n=m then U1 else Un n,fun n u hu=>?_,fun n=>?_,fun a b u ha hb=>?_,fun n y' hl=>?_⟩
  ·by_cases e:n=m
   ·simp only[e,if_true]at hu;exact List.mem_append_left _ hu
   ·simp only[e,if_false]at hu;exact List.mem_append_right _ (k1 n u hu)
  ·by_cases e:n=m
   ·simp only[e,if_true];exact n1
   ·simp only[e,if_false];exact k2 n
  ·by_cases ea:a=m<;>by_cases eb:b=m
   ·rw[ea,eb]
   ·simp only[ea,if_true]at ha;simp only[eb,if_false]at hb;exact absurd rfl (n3 u ha u (k1 b u hb))
   ·simp only[ea,if_false]at ha;simp only[eb,if_true]at hb;exact absurd rfl (n3 u hb u (k1 a u ha))
   ·simp only[ea,if_false]at ha;simp only[eb,if_false]at hb;exact k3 a b u ha hb
  ·rw[aJ]at hl;by_cases e:m=n
   ·rw[if_pos e]at hl;cases hl;subst e;simpa using hT
   ·rw[if_neg e]at hl;have:¬n=m:=fun e'=>e e'.symm;simp only[this,if_false];exact k4 n y' hl
structure Told (X:Cx) (ρ:Gh) (F:Nat→Prop) (o:Ob) (h:ab) (S:Nat→Ft) (ids:List (Option Nat)) (U:List Nat) (o1:Ob) (S1:Nat→Ft) (Ns:Nat→List Nat):Prop where
 b8:∀n y,look o1 n=some y→OR ids.length (fk ids (Fz o1) ρ) F h X.base n (S1 n) y
 perm:∀n y,look o1 n=some y→(S1 n).Perm ((Ns n).flatMap S)
 Bq:∀n y,look o1 n=some y→(Ns n).Nodup
 gg:∀n y u,look o1 n=some y→u∈Ns n→∃y,look o u=some y
 Xq:∀n y u,look o1 n=some y→u∈Ns n→ids[n]? =some (some u)∨u∈U
 one:∀n1 n2 y1 y2 u,look o1 n1=some y1→look o1 n2=some y2→u∈Ns n1→u∈Ns n2→n1=n2
open Classical in
open Classical in
theorem Hm.told (H:Mem X ρ F o c h) {S:Nat→Ft} (K:MO X ρ F o c h S) {U:List Nat} {o1:Ob} (L:Hm ids o U o1) (hi:iu c ids=true) (hU:lQ ids U=true):∃S1 Ns,Told X ρ F o h S ids U o1 S1 Ns:=by
 obtain⟨u1,u2⟩:=Jh hU;obtain⟨Un,k1,k2,k3,k4⟩:=L.TP H K u1;have each:∀n,∃(S1:Ft) (N:List Nat),∀y,look o1 n=some y→OR ids.length (fk ids (Fz o1) ρ) F h X.base n S1 y∧S1.Perm (N.flatMap S)∧N.Nodup∧(∀u∈N,∃y,look o u=some y)∧∀u∈N,ids[n]? =some (some u)∨u∈Un n:=by
  intro n;cases hl:look o1 n with
  |none=>exact⟨[],[],fun y hy=>by cases hy⟩
  |some y=>
   obtain⟨S1,h1,h2,h3⟩:=(k4 n y hl).rel (zf:=Fz o1) H K rfl (by simp[Fz,hl]);rcases h2 with⟨m,q1,q2,q3⟩|⟨rfl,q2⟩
   ·refine⟨S1,m::Un n,fun y' Xr=>?_⟩;cases Xr;refine⟨h1,q3,List.nodup_cons.2 ⟨fun hm=>u2 m (k1 n m hm) n q1,k2 n⟩,fun u hu=>?_,fun u hu=>?_⟩
    ·rcases List.mem_cons.1 hu with rfl |hu
     ·exact q2
     ·exact h3 u hu
    ·rcases List.mem_cons.1 hu with rfl |hu
     ·exact .inl q1
     ·exact .inr hu
   ·exact⟨[],[],fun y' Xr=>by cases Xr;exact⟨h1,by simp,by simp,by simp,by simp⟩⟩
 refine⟨fun n=>Classical.choose (each n),fun n=>Classical.choose (Classical.choose_spec (each n)),?_⟩;have sp:=fun n y (hl:look o1 n=some y)=>Classical.choose_spec (Classical.choose_spec (each n)) y hl;refine⟨fun n y hl=>(sp n y hl).1,fun n y hl=>(sp n y hl).2.1,fun n y hl=>(sp n y hl).2.2.1,fun n y u hl hu=>(sp n y hl).2.2.2.1 u hu,fun n y u hl hu=>((sp n y hl).2.2.2.2 u hu).imp id (k1 n u),fun a b y1 y2 u hla hlb ha hb=>?_⟩;rcases(sp a y1 hla).2.2.2.2 u ha with p|p<;>rcases(sp b y2 hlb).2.2.2.2 u hb with q|q
 ·exact mu hi p q
 ·exact absurd p (u2 u (k1 b u q) a)
 ·exact absurd q (u2 u (k1 a u p) b)
 ·exact k3 a b u p q
theorem Db {S:Nat→Ft} {N:List Nat} {x:Nat}:x∈dk (N.flatMap S)↔∃u∈N,x∈dk (S u):=by
 unfold dk;simp only[List.mem_map,List.mem_flatMap];constructor
 ·rintro⟨p,⟨u,h1,h2⟩,h3⟩;exact⟨u,h1,p,h2,h3⟩
 ·rintro⟨u,h1,p,h2,h3⟩;exact⟨p,⟨u,h1,h2⟩,h3⟩
theorem MO.wK {S:Nat→Ft} (K:MO X ρ F o c h S):∀{N:List Nat},N.Nodup→(∀u∈N,∃y,look o u=some y)→(dk (N.flatMap S)).Nodup
 |[],_,_=>by simp[dk]
 |u::N,hn,hd=>by
  obtain⟨h1,h2⟩:=List.nodup_cons.1 hn;obtain⟨y,hy⟩:=hd u List.mem_cons_self;rw[List.flatMap_cons,pD];refine List.nodup_append.2 ⟨K.Bq u y hy,K.wK h2 fun v hv=>hd v (List.mem_cons_of_mem _ hv),fun a ha b hb e=>?_⟩;subst e;obtain⟨v,hv,hx⟩:=Db.1 hb;obtain⟨y',Xr⟩:=hd v (List.mem_cons_of_mem _ hv);have:=K.eY u v y y' a hy Xr ha hx;subst this;exact h1 hv
section
variable {S S1:Nat→Ft} {U:List Nat} {o1:Ob} {Ns:Nat→List Nat}
theorem Told.mem (D:Told X ρ F o h S ids U o1 S1 Ns) {n:Nat} {y:TO} (hl:look o1 n=some y) {x:Nat}:x∈dk (S1 n)↔∃u∈Ns n,x∈dk (S u):=by
 rw[←Db];exact((D.perm n y hl).map _).mem_iff
theorem Told.Xs (D:Told X ρ F o h S ids U o1 S1 Ns) (K:MO X ρ F o c h S) {n:Nat} {y:TO} (hl:look o1 n=some y):(dk (S1 n)).Nodup:=
 ((D.perm n y hl).map _).nodup_iff.2 (K.wK (D.Bq n y hl) fun u hu=>D.gg n y u hl hu)
theorem Told.eY (D:Told X ρ F o h S ids U o1 S1 Ns) (K:MO X ρ F o c h S) {n1 n2:Nat} {y1 y2:TO} {x:Nat} (h1:look o1 n1=some y1) (h2:look o1 n2=some y2) (k1:x∈dk (S1 n1)) (k2:x∈dk (S1 n2)):n1=n2:=by
 obtain⟨u,a1,a2⟩:=(D.mem h1).1 k1;obtain⟨v,b1,b2⟩:=(D.mem h2).1 k2;obtain⟨_,c1⟩:=D.gg _ _ _ h1 a1;obtain⟨_,c2⟩:=D.gg _ _ _ h2 b1;have:=K.eY u v _ _ x c1 c2 a2 b2;subst this;exact D.one _ _ _ _ _ h1 h2 a1 b1
theorem Told.eQ (D:Told X ρ F o h S ids U o1 S1 Ns) (K:MO X ρ F o c h S) {n:Nat} {y:TO} {x:Nat} (hl:look o1 n=some y) (k:x∈dk (S1 n)):X.base≤x∧x<h.size∧(X.M x∨X.h0.size≤x):=by
 obtain⟨u,a1,a2⟩:=(D.mem hl).1 k;obtain⟨_,c1⟩:=D.gg _ _ _ hl a1;exact K.eQ u _ x c1 a2
theorem Told.apart (D:Told X ρ F o h S ids U o1 S1 Ns) (K:MO X ρ F o c h S) {n:Nat} {y:TO} {x b:Nat} (hl:look o1 n=some y) (k:(x,true)∈S1 n) (hb:F b):hd h b≠x:=by
 have:=(D.perm n y hl).mem_iff.1 k;obtain⟨u,a1,a2⟩:=List.mem_flatMap.1 this;obtain⟨_,c1⟩:=D.gg _ _ _ hl a1;exact K.apart u _ x b c1 a2 hb
end
theorem wL (_:∀n l,ρ n=some l→n<c) {o1:Ob} {n:Nat} {l:Loc} (h:fk ids (Fz o1) ρ n=some l):n<ids.length:=by
 unfold fk at h;cases hq:ids[n]? with
 |none=>rw[hq]at h;cases h
 |some q=>exact qR hq
theorem Mem.le (H:Mem X ρ F o c h) {U:List Nat} {o1:Ob} (hi:iu c ids=true) (hp:oP X.c0 0 ids=true) (hU:lQ ids U=true) (hO:Hm ids o U o1):
 Mem X (fk ids (Fz o1) ρ) F o1 ids.length h:=by
 obtain⟨S,K⟩:=H.ex;obtain⟨S1,Ns,D⟩:=hO.told H K hi hU;have pre:=zA hp;refine⟨⟨S1,D.b8,fun n y hl=>D.Xs K hl,fun n1 n2 y1 y2 x h1 h2=>D.eY K h1 h2,fun n y x hl=>D.eQ K hl,fun n y x b hl=>D.apart K hl⟩,fun n l hn=>wL H.names hn,H.frozen,H.F0,H.wf,H.od,H.l8,H.Br,?_,fun k l hk hl=>?_,fun k b hk hb=>?_⟩
 ·rcases Nat.lt_or_ge ids.length X.c0 with h1|h1
  ·have:=qR (pre ids.length h1);omega
  ·exact h1
 ·have:=pre k hk;rw[Nat.zero_add]at this;exact H.yS.2.1 k l hk (by simpa[fk,this]using hl)
 ·have:=pre k hk;rw[Nat.zero_add]at this;simp only[fk,this];exact H.yS.2.2 k b hk hb
theorem Mem.cg (sh:List Nat):∀{F:Nat→Prop} {o:Ob},Mem X ρ F o c h→∃F',Mem X ρ F' (M.cg sh o) c h∧(∀t v,VR c ρ F h t v→VR c ρ F' h t v)∧(∀b,F b→F' b):=by
 induction sh with
 |nil=>intro F o H;exact⟨F,H,fun _ _ h=>h,fun _ h=>h⟩
 |cons m sh ih=>
  intro F o H;obtain⟨F1,H1,m1,f1,_⟩:=H.share m;obtain⟨F2,H2,m2,f2⟩:=ih H1;exact⟨F2,H2,fun t v h=>m2 t v (m1 t v h),fun b h=>f2 b (f1 b h)⟩
end
def lR (S:Nat→Ft) (o:Ob):Nat→Prop:=fun x=>∃k y,look o k=some y∧x∈dk (S k)
def yF (base:Nat) (ρ:Gh) (F:Nat→Prop) (o:Ob) (c:Nat) (h:ab) (S:Nat→Ft):Cx:=⟨base,h,lR S o,F,c,ρ⟩
def kE (T:Env) (F:Nat→Prop) (h:ab):Prop:=∀g cs,T.vl g=some cs→F g∧h.rd g=some cs∧True
def FA (T:Env) (X:Cx):Prop:=kE T X.F0 X.h0
theorem FA.now {T:Env} {X:Cx} {ρ:Gh} {F:Nat→Prop} {o:Ob} {c:Nat} {h:ab} (N:FA T X) (H:Mem X ρ F o c h):kE T F h:=fun g cs hg=>
 let⟨n1,n2,n3⟩:=N g cs hg
 ⟨H.F0 g n1,(H.od.cX g n1).trans n2,n3⟩
def VC (E:Env):KP:=fun g c args o R=>
 ∀(base:Nat) (ρ:Gh) (F:Nat→Prop) (h:ab) (S:Nat→Ft) (eE:List Value),kE E F h→Mem (yF base ρ F o c h S) ρ F o c h→MO (yF base ρ F o c h S) ρ F o c h S→dH c ρ F h args eE→
  ∃n v h' ρ' F' r o' c',fJ E base n g eE h=some (v,h')∧R r o' c'∧Mem (yF base ρ F o c h S) ρ' F' o' c' h'∧VR c' ρ' F' h' r v
theorem Evo.refl (M F0:Nat→Prop) (h:ab):Evo M F0 h h:=⟨Nat.le_refl _,fun _ _ _=>rfl,fun _ _=>rfl,fun _ _=>rfl⟩
section
variable {X:Cx} {ρ:Gh} {F:Nat→Prop} {o:Ob} {c:Nat} {h:ab} {ids:List (Option Nat)}
theorem Mem.hand (H:Mem X ρ F o c h) {S S1:Nat→Ft} {U:List Nat} {Ns:Nat→List Nat} (K:MO X ρ F o c h S) {o0:Ob} (D:Told X ρ F o h S ids U o0 S1 Ns):
 Mem (yF X.base (fk ids (Fz o0) ρ) F o0 ids.length h S1) (fk ids (Fz o0) ρ) F o0 ids.length h∧MO (yF X.base (fk ids (Fz o0) ρ) F o0 ids.length h S1) (fk ids (Fz o0) ρ) F o0 ids.length h S1:=by
 have M:MO (yF X.base (fk ids (Fz o0) ρ) F o0 ids.length h S1) (fk ids (Fz o0) ρ) F o0 ids.length h S1:=
  ⟨D.b8,fun n y hl=>D.Xs K hl,fun n1 n2 y1 y2 x h1 h2=>D.eY K h1 h2,fun n y x hl hx=>⟨(D.eQ K hl hx).1,(D.eQ K hl hx).2.1,.inl ⟨n,y,hl,hx⟩⟩,fun n y x b hl=>D.apart K hl⟩
 exact⟨⟨⟨S1,M⟩,fun n l hn=>wL H.names hn,H.frozen,fun _ hb=>hb,H.wf,.refl _ _ _,H.l8,fun _ hb=>.inl hb,Nat.le_refl _,fun _ _ _ hl=>hl,fun _ _ _ hb=>hb⟩,M⟩
open Classical in
noncomputable def p6 (ids:List (Option Nat)) (c:Nat) (ρ ρ':Gh):Gh:=fun n=>
 if hx:∃k:Nat,ids[k]? =some (some n)then ρ' (Classical.choose hx)else if n<c then ρ n else if(∃m:Nat,ids[n - c]? =some (some m))then none else ρ' (n - c)
theorem FB {ρ':Gh} (hi:iu c ids=true) {k m:Nat} (hk:ids[k]? =some (some m)):p6 ids c ρ ρ' m=ρ' k:=by
 unfold p6;have hx:∃k:Nat,ids[k]? =some (some m):=⟨k,hk⟩;rw[dif_pos hx,mu hi (Classical.choose_spec hx) hk]
theorem vw {ρ':Gh} {n:Nat} (hn:∀k:Nat,ids[k]? ≠some (some n)) (hc:n<c):p6 ids c ρ ρ' n=ρ n:=by
 unfold p6;rw[dif_neg (fun⟨k,hk⟩=>hn k hk),if_pos hc]
theorem LX {ρ':Gh} (hi:iu c ids=true) (k:Nat):p6 ids c ρ ρ' (back ids c k)=ρ' k:=by
 unfold back;split
 ·rename_i m hm;exact FB hi hm
 ·rename_i Cl;unfold p6;rw[dif_neg,if_neg om,if_neg,Nat.add_sub_cancel_left]
  ·rintro⟨m,hm⟩;rw[Nat.add_sub_cancel_left]at hm;exact Cl m hm
  ·rintro⟨k',oK⟩;have:=kD hi oK;omega
theorem wM (hi:iu c ids=true) {k k':Nat} (h:back ids c k=back ids c k'):k=k':=by
 unfold back at h;split at h
 ·rename_i m hm;split at h
  ·rename_i m' TL;subst h;exact mu hi hm TL
  ·have:=kD hi hm;omega
 ·split at h
  ·rename_i m' TL;have:=kD hi TL;omega
  ·omega
theorem PE (hi:iu c ids=true) {k c':Nat} (hk:k<c'):back ids c k<c+c':=by
 unfold back;split
 ·rename_i m hm;have:=kD hi hm;omega
 ·omega
theorem mw (β:Nat→Nat):∀(l:List TV) (i:Nat),(TV.gI β l)[i]? =(l[i]?).map (TV.lP β)
 |[],i=>by simp[TV.gI]
 |v::l,i=>by
  cases i with
  |zero=>simp[TV.gI]
  |succ i=>simp[TV.gI,mw β l i]
theorem fQ (β:Nat→Nat):∀(l:List TV),(TV.gI β l).length=l.length
 |[]=>rfl
 |v::l=>by simp[TV.gI,fQ β l]
theorem VR.lP {c' cc:Nat} {ρ' KR:Gh} {F':Nat→Prop} {h':ab} {β:Nat→Nat} (Bw:∀k,k<c'→β k<cc) (fj:∀k,KR (β k)=ρ' k) {t:TV} {x:Value} (H:VR c' ρ' F' h' t x):VR cc KR F' h' (t.lP β) x:=by
 induction H with
 |j v=>exact .j v
 |s hp=>exact .s hp
 |nil he=>exact .nil he
 |sl h1 h2 h3 h4 h5 h6 h7 h8 h9 hc _=>exact .sl h1 h2 h3 h4 h5 h6 h7 h8 h9 fun i j e t v q1 q2 q3=>(hc i j e t v q1 q2 q3).dL (h9 e (List.mem_of_getElem? q1) t (List.mem_of_getElem? q2))
 |tk hn pF ha h0=>exact .tk (Bw _ hn) pF (fun b z len hx=>ha b z len (by rw[←fj];exact hx)) (fun z hx=>h0 z (by rw[←fj];exact hx))
 |ptr hb=>exact .ptr (by rw[fj];exact hb)
 |ep h1 h2 h3 h4 hc _=>exact .ep h1 h2 h3 h4 fun j t v q1 q2=>(hc j t v q1 q2).dL (h4 t (List.mem_of_getElem? q1))
 |wp hn pF ha h0=>exact .wp (Bw _ hn) pF (fun b z len hx=>ha b z len (by rw[←fj];exact hx)) (fun z hx=>h0 z (by rw[←fj];exact hx))
 |mp hb=>exact .mp (by rw[fj];exact hb)
 |bg hb=>exact .bg (by rw[fj];exact hb)
 |sv hn pF ha h0=>exact .sv (Bw _ hn) pF (fun b z len hx=>ha b z len (by rw[←fj];exact hx)) (fun z hx=>h0 z (by rw[←fj];exact hx))
 |pv hn pF ha h0=>exact .pv (Bw _ hn) pF (fun b z len hx=>ha b z len (by rw[←fj];exact hx)) (fun z hx=>h0 z (by rw[←fj];exact hx))
 |agg hs _ ih=>
  refine .agg (by rw[fQ];exact hs) fun i t v q1 q2=>?_;rw[mw,Option.map_eq_some_iff]at q1;obtain⟨t0,q3,rfl⟩:=q1;exact ih i t0 v q3 q2
 |cY hs _ ih=>
  refine .cY (by rw[fQ];exact hs) fun i t v q1 q2=>?_;rw[mw,Option.map_eq_some_iff]at q1;obtain⟨t0,q3,rfl⟩:=q1;exact ih i t0 v q3 q2
 |mT _ ih=>exact .mT ih
 |dc hs _ ht _ AI AJ=>
  refine .dc (by rw[fQ];exact hs) (fun i t v q1 q2=>?_) (by rw[fQ];exact ht) (fun i t v q1 q2=>?_)
  ·rw[mw,Option.map_eq_some_iff]at q1;obtain⟨t0,q3,rfl⟩:=q1;exact AI i t0 v q3 q2
  ·rw[mw,Option.map_eq_some_iff]at q1;obtain⟨t0,q3,rfl⟩:=q1;exact AJ i t0 v q3 q2
theorem dH.lP {c' cc:Nat} {ρ' KR:Gh} {F':Nat→Prop} {h':ab} {β:Nat→Nat} (Bw:∀k,k<c'→β k<cc) (fj:∀k,KR (β k)=ρ' k) {l:List TV} {m:List Value} (H:dH c' ρ' F' h' l m):dH cc KR F' h' (TV.gI β l) m:=by
 refine⟨by rw[fQ];exact H.1,fun i t v q1 q2=>?_⟩;rw[mw,Option.map_eq_some_iff]at q1;obtain⟨t0,q3,rfl⟩:=q1;exact(H.2 i t0 v q3 q2).lP Bw fj
theorem LY (β:Nat→Nat) {t:TV} (hf:fz t=true):t.lP β=t:=by
 unfold fz at hf;split at hf<;>first|rfl |(simp[TV.lP];done)|(simp[TV.lP,TV.gI];done)|cases hf
theorem LZ (β:Nat→Nat) {t:TV} (hf:lZ t=true):t.lP β=t:=by
 unfold lZ at hf;split at hf
 ·simp[TV.lP]
 ·exact LY β hf
theorem wN (β:Nat→Nat):∀{l:List TV},(∀t∈l,lZ t=true)→TV.gI β l=l
 |[],_=>rfl
 |t::l,h=>by simp only[TV.gI];rw[LZ β (h t List.mem_cons_self),wN β fun t ht=>h t (List.mem_cons_of_mem _ ht)]
theorem Dc (β:Nat→Nat) (a b:List TV):TV.gI β (a++b)=TV.gI β a++TV.gI β b:=by
 induction a with
 |nil=>rfl
 |cons t l ih=>simp[TV.gI,ih]
theorem Bx (β:Nat→Nat) (l:List (List TV)):TV.gI β l.flatten=(l.map (TV.gI β)).flatten:=by
 induction l with
 |nil=>rfl
 |cons t l ih=>simp[Dc,ih]
theorem Dd (β:Nat→Nat) {es:List (List TV)} (bU:∀e∈es,∀t∈e,lZ t=true):∀op,cF es (wF β op)=(cF es op).map (TV.gI β)
 |[]=>by
  show es=es.map (TV.gI β);refine List.ext_getElem? fun i=>?_;rw[List.getElem?_map];cases he:es[i]? with
  |none=>rfl
  |some e=>simp[wN β (bU e (List.mem_of_getElem? he))]
 |p::l=>by
  show(cF es (wF β l)).set p.1 (TV.gI β p.2)=((cF es l).set p.1 p.2).map (TV.gI β);rw[Dd β bU l,List.map_set]
theorem De (f:TV→TV) (k:Value) (v:TV):∀es:List (Value×TV),(dE es k v).map (fun e=>(e.1,f e.2))=dE (es.map fun e=>(e.1,f e.2)) k (f v)
 |[]=>rfl
 |e::es=>by
  simp only[dE,List.map_cons];cases qg k e.1 with
  |true=>rfl
  |false=>simp[De f k v es]
theorem zC (β:Nat→Nat) (v:TV):aA (v.lP β)=TV.gI β (aA v)∧dj (v.lP β)=dj v:=by
 cases v<;>simp[TV.lP,aA,dj,TV.gI]
theorem PF (β:Nat→Nat) {v:TV} (h:∀t∈aA v,lZ t=true):v.lP β=v:=by
 cases v with
 |agg cs=>
  have e:TV.gI β cs=cs:=wN β h;simp only[TV.lP,e]
 |_=>exact LZ β (h _ (by simp[aA]))
theorem HF (β:Nat→Nat) {es:List (Value×TV)} (bU:∀e∈es,∀t∈aA e.2,lZ t=true):∀op,I6 es (Hn β op)=(I6 es op).map fun e=>(e.1,e.2.lP β)
 |[]=>by
  show es=es.map fun e=>(e.1,e.2.lP β);refine List.ext_getElem? fun i=>?_;rw[List.getElem?_map];cases he:es[i]? with
  |none=>rfl
  |some e=>simp[PF β (bU e (List.mem_of_getElem? he))]
 |p::l=>by
  show dE (I6 es (Hn β l)) p.1 (p.2.lP β)=(dE (I6 es l) p.1 p.2).map fun e=>(e.1,e.2.lP β);rw[HF β bU l,De]
section
variable {c' cc:Nat} {ρ' KR:Gh} {F':Nat→Prop} {h':ab} {β:Nat→Nat} {base:Nat} {S:Ft}
theorem cI.lP (Bw:∀k,k<c'→β k<cc) (fj:∀k,KR (β k)=ρ' k) {l:List TV} {m:List Value} (H:cI c' ρ' F' h' base S l m):cI cc KR F' h' base S (TV.gI β l) m:=by
 induction H with
 |nil=>exact .nil
 |vr hv _ ih=>exact .vr (hv.lP Bw fj) ih
 |cl hv _ ih=>
  rename_i t v l m _;have:t.lP β=t:=by
   cases hv with
   |fz hf _=>exact LY β hf
   |own=>simp[TV.lP]
  simp only[TV.gI];rw[this];exact .cl hv ih
theorem iy.lP (Bw:∀k,k<c'→β k<cc) (fj:∀k,KR (β k)=ρ' k) {kd:Nat} {l:List (Value×TV)} {m:List MapEntry} (H:iy c' ρ' F' h' base kd S l m):iy cc KR F' h' base kd S (l.map fun e=>(e.1,e.2.lP β)) m:=by
 induction H with
 |nil=>exact .nil
 |cons hk ir ha hv _ ih=>
  exact .cons hk ir ((zC β _).2.trans ha) (by rw[(zC β _).1];exact hv.lP Bw fj) ih
theorem OR.lP {k:Nat} (Bw:∀k,k<c'→β k<cc) (fj:∀k,KR (β k)=ρ' k) {y:TO} (H:OR c' ρ' F' h' base k S y):OR cc KR F' h' base (β k) S (y.lP β):=by
 cases H with
 |cells hb hg ht hc=>exact .cells ((fj k).trans hb) hg ht (hc.lP Bw fj)
 |map hb hg hl hc ct=>exact .map ((fj k).trans hb) hg hl (fun i e e' q1 q2=>let⟨r1,r2,r3,r4⟩:=hc i e e' q1 q2;⟨r1,r2,r3,r4.vu r3⟩) ct
 |nil hb hz=>exact .nil ((fj k).trans hb) hz
 |arr hb hg hf ht dS hz hlen he gU hc hF=>exact .arr ((fj k).trans hb) hg hf ht dS hz hlen he gU (fun i j e t v q1 q2 q3=>(hc i j e t v q1 q2 q3).dL (gU e (List.mem_of_getElem? q1) t (List.mem_of_getElem? q2))) hF
 |gq hb hz=>exact .gq ((fj k).trans hb) hz
 |bV hb hg hf ht dS hz hlen he bU jK hc=>
  refine .bV ((fj k).trans hb) hg hf ht dS hz hlen he bU (fun p hp=>?_) (by rw[Dd β bU,←Bx];exact hc.lP Bw fj);have key:∀op:List (Nat×List TV),p∈wF β op→∃q∈op,p.1=q.1∧p.2.length=q.2.length:=by
   intro op
   induction op with
   |nil=>intro h;simp[wF]at h
   |cons q l ih=>
    intro h;simp only[wF,List.mem_cons]at h;rcases h with rfl |h
    ·exact⟨q,List.mem_cons_self,rfl,fQ β _⟩
    ·obtain⟨q',h1,h2⟩:=ih h;exact⟨q',List.mem_cons_of_mem _ h1,h2⟩
  obtain⟨q,h1,h2,h3⟩:=key _ hp;rw[h2,h3];exact jK q h1
 |eT hb hg bU hc ct=>exact .eT ((fj k).trans hb) hg bU (by rw[HF β bU];exact hc.lP Bw fj) ct
 |gO hb hg=>exact .gO ((fj k).trans hb) hg
end
theorem tF {β:Nat→Nat} (Bw:∀k k',β k=β k'→k=k'):∀{o:Ob} {n:Nat} {y:TO},look (Fv β o) n=some y→∃k y0,n=β k∧look o k=some y0∧y=y0.lP β
 |[],n,y,h=>by cases h
 |p::l,n,y,h=>by
  simp only[Fv]at h;rw[aJ]at h;split at h
  ·rename_i e;cases h;exact⟨p.1,p.2,e.symm,by rw[aJ,if_pos rfl],rfl⟩
  ·rename_i e;obtain⟨k,y0,rfl,h2,h3⟩:=tF Bw h;refine⟨k,y0,rfl,?_,h3⟩;rw[aJ,if_neg (fun e2=>e (by rw[e2]))];exact h2
theorem nr:∀{ids:List (Option Nat)} {o:Ob} {n:Nat} {y:TO},look (j7 ids o) n=some y→look o n=some y∧∀k:Nat,ids[k]? ≠some (some n)
 |[],o,n,y,h=>⟨h,fun k=>by simp⟩
 |none::l,o,n,y,h=>by
  obtain⟨h1,h2⟩:=nr (ids:=l) h;refine⟨h1,fun k=>?_⟩;cases k with
  |zero=>simp
  |succ k=>simpa using h2 k
 |some m::l,o,n,y,h=>by
  obtain⟨h1,h2⟩:=nr (ids:=l) h;rw[dy]at h1;by_cases e:n=m
  ·rw[if_pos e]at h1;cases h1
  ·rw[if_neg e]at h1;refine⟨h1,fun k=>?_⟩;cases k with
   |zero=>simp;exact fun e2=>e e2.symm
   |succ k=>simpa using h2 k
theorem wO:∀{U:List Nat} {o:Ob} {n:Nat} {y:TO},look (uG U o) n=some y→look o n=some y∧n∉U
 |[],o,n,y,h=>⟨h,by simp⟩
 |m::l,o,n,y,h=>by
  obtain⟨h1,h2⟩:=wO (U:=l) h;rw[dy]at h1;by_cases e:n=m
  ·rw[if_pos e]at h1;cases h1
  ·rw[if_neg e]at h1;exact⟨h1,by simp[e,h2]⟩
open Classical in
theorem Mem.merge (H:Mem X ρ F o c h) {S S1:Nat→Ft} {U:List Nat} {Ns:Nat→List Nat} (K0:MO X ρ F o c h S) {o0:Ob} (hi:iu c ids=true) (D:Told X ρ F o h S ids U o0 S1 Ns) {ρ':Gh} {F':Nat→Prop} {o':Ob} {c':Nat} {h':ab}
 (K:Mem (yF X.base (fk ids (Fz o0) ρ) F o0 ids.length h S1) ρ' F' o' c' h'):
 Mem X (p6 ids c ρ ρ') F' (Fv (back ids c) o'++uG U (j7 ids o)) (c+c') h'∧(∀t v,VR c ρ F h t v→VR (c+c') (p6 ids c ρ ρ') F' h' t v)∧(∀t v,VR c' ρ' F' h' t v→VR (c+c') (p6 ids c ρ ρ') F' h' (t.lP (back ids c)) v)∧
  ∀n y,look o n=some y→(∀k:Nat,ids[k]? ≠some (some n))→n∉U→∀x∈dk (S n),¬lR S1 o0 x:=by
 obtain⟨S',KO⟩:=K.ex;have hA:∀n l,n<c→p6 ids c ρ ρ' n=some l→ρ n=some l:=fun n l hn hl=>by
  by_cases hx:∃k:Nat,ids[k]? =some (some n)
  ·obtain⟨k,hk⟩:=hx;rw[FB hi hk]at hl;have:=K.yS.2.1 k l (qR hk) hl;simpa[yF,fk,hk]using this
  ·rwa [vw (fun k hk=>hx ⟨k,hk⟩) hn]at hl
 have hB:∀n b,ρ n=some (.dw b)→p6 ids c ρ ρ' n=some (.dw b):=fun n b hb=>by
  by_cases hx:∃k:Nat,ids[k]? =some (some n)
  ·obtain⟨k,hk⟩:=hx;rw[FB hi hk];exact K.yS.2.2 k b (qR hk) (by simpa[yF,fk,hk]using hb)
  ·rw[vw (fun k hk=>hx ⟨k,hk⟩) (H.names _ _ hb)];exact hb
 have Bw:=fun k (hk:k<c')=>PE hi hk;have fj:=fun k=>LX (ρ:=ρ) (ρ':=ρ') hi k;have cX:∀b cs,F b→h.rd b=some cs→h'.rd b=some cs:=fun b cs hb hr=>by rw[K.od.cX b hb];exact hr
 have qi:∀b,F b→F' b:=fun b hb=>K.F0 b hb;have hm:∀t v,VR c ρ F h t v→VR (c+c') (p6 ids c ρ ρ') F' h' t v:=fun t v=>VR.mono om hA hB qi cX;have fG:h.size≤h'.size:=K.od.size
 -- families that the call may have changed
 have hM:∀x,lR S1 o0 x→∃(u:Nat) (y:TO),((∃k:Nat,ids[k]? =some (some u))∨u∈U)∧look o u=some y∧x∈dk (S u):=by
  rintro x ⟨k,y,hl,hh⟩;obtain⟨u,h1,h2⟩:=(D.mem hl).1 hh;obtain⟨y',h3⟩:=D.gg _ _ _ hl h1;exact⟨u,y',(D.Xq _ _ _ hl h1).imp (fun h=>⟨_,h⟩) id,h3,h2⟩
 have hMX:∀x,lR S1 o0 x→X.M x∨X.h0.size≤x:=fun x hx=>by
  obtain⟨u,y,_,h2,h3⟩:=hM x hx;exact(K0.eQ u y x h2 h3).2.2
 have same:∀b,b<h.size→¬lR S1 o0 (hd h b)→h'.get b=h.get b:=fun b hb hx=>K.od.bk b hb hx;have out:∀n y,look o n=some y→(∀k:Nat,ids[k]? ≠some (some n))→n∉U→∀x∈dk (S n),¬lR S1 o0 x:=by
  intro n y hl h1 h2 x hx hy;obtain⟨u,y',q1,q2,q3⟩:=hM x hy;have:=K0.eY n u y y' x hl q2 hx q3;subst this;rcases q1 with⟨k,q1⟩|q1
  ·exact h1 k q1
  ·exact h2 q1
 let S2:Nat→Ft:=fun n=>if hx:∃k y0,n=back ids c k∧look o' k=some y0 then S' (Classical.choose hx)else S n
 have s2a:∀k y0,look o' k=some y0→S2 (back ids c k)=S' k:=fun k y0 hl=>by
  have hx:∃k' y0,back ids c k=back ids c k'∧look o' k'=some y0:=⟨k,y0,rfl,hl⟩;simp only[S2];rw[dif_pos hx];obtain⟨_,h1,_⟩:=Classical.choose_spec hx;rw[wM hi h1.symm]
 have kR:∀n y,look (Fv (back ids c) o'++uG U (j7 ids o)) n=some y→
  (∃k y0,n=back ids c k∧look o' k=some y0∧y=y0.lP (back ids c)∧S2 n=S' k)∨
  (look o n=some y∧(∀k:Nat,ids[k]? ≠some (some n))∧n∉U∧S2 n=S n):=by
  intro n y hl;rw[jA]at hl;split at hl
  ·rename_i y1 h1;cases hl;obtain⟨k,y0,rfl,h2,rfl⟩:=tF (fun k k'=>wM hi) h1;exact .inl ⟨k,y0,rfl,h2,rfl,s2a k y0 h2⟩
  ·rename_i Cl;obtain⟨h1,h2⟩:=wO hl;obtain⟨h3,h4⟩:=nr h1;refine .inr ⟨h3,h4,h2,?_⟩;simp only[S2];rw[dif_neg];rintro⟨k,y0,rfl,hk⟩;have yx:=H.lt h3;unfold back at h4 yx;split at yx
   ·rename_i m hm;rw[hm]at h4;exact h4 k hm
   ·omega
 have old:∀n y,look o n=some y→(∀k:Nat,ids[k]? ≠some (some n))→n∉U→OR (c+c') (p6 ids c ρ ρ') F' h' X.base n (S n) y:=fun n y hl h1 h2=>
  (K0.b8 n y hl).bk (T:=lR S1 o0) H.wf same (out n y hl h1 h2) qi cX hm (vw h1 (H.lt hl))
 -- a family of the call's is none of the others
 have apart:∀k y0 x,look o' k=some y0→x∈dk (S' k)→lR S1 o0 x∨h.size≤x:=fun k y0 x hl hh=>(KO.eQ k y0 x hl hh).2.2;refine⟨⟨⟨S2,fun n y hl=>?_,fun n y hl=>?_,fun n1 n2 y1 y2 x h1 h2 k1 k2=>?_,fun n y x hl hh=>?_,fun n y x b hl hs hb=>?_⟩,fun n l hn=>?_,fun b hb=>K.frozen b hb,fun b hb=>qi b (H.F0 b hb),K.wf,⟨Nat.le_trans H.od.size fG,fun b hb hMb=>?_,fun b hb=>?_,fun b hb=>?_⟩,Nat.le_trans H.l8 fG,fun b hb=>?_,?_,fun k l hk hl=>?_,fun k b hk hb=>?_⟩,hm,fun t v=>VR.lP Bw fj,out⟩
 ·rcases kR n y hl with⟨k,y0,rfl,h1,rfl,h2⟩|⟨h1,h2,h3,h4⟩
  ·rw[h2];exact(KO.b8 k y0 h1).lP Bw fj
  ·rw[h4];exact old n y h1 h2 h3
 ·rcases kR n y hl with⟨k,y0,rfl,h1,rfl,h2⟩|⟨h1,h2,h3,h4⟩
  ·rw[h2];exact KO.Bq k y0 h1
  ·rw[h4];exact K0.Bq n y h1
 ·rcases kR n1 y1 h1 with⟨k,z1,rfl,a1,_,e1⟩|⟨a1,f1,g1,e1⟩<;>rcases kR n2 y2 h2 with⟨k',z2,rfl,a2,_,e2⟩|⟨a2,f2,g2,e2⟩
  ·rw[e1]at k1;rw[e2]at k2;rw[KO.eY k k' z1 z2 x a1 a2 k1 k2]
  ·rw[e1]at k1;rw[e2]at k2;rcases apart _ _ _ a1 k1 with h3|h3
   ·exact absurd h3 (out _ _ a2 f2 g2 x k2)
   ·have:=(K0.eQ _ _ _ a2 k2).2.1;omega
  ·rw[e1]at k1;rw[e2]at k2;rcases apart _ _ _ a2 k2 with h3|h3
   ·exact absurd h3 (out _ _ a1 f1 g1 x k1)
   ·have:=(K0.eQ _ _ _ a1 k1).2.1;omega
  ·rw[e1]at k1;rw[e2]at k2;exact K0.eY _ _ _ _ x a1 a2 k1 k2
 ·rcases kR n y hl with⟨k,z1,rfl,a1,_,e1⟩|⟨a1,_,_,e1⟩
  ·rw[e1]at hh;obtain⟨q1,q2,q3⟩:=KO.eQ _ _ _ a1 hh;refine⟨q1,q2,?_⟩;rcases q3 with q3|q3
   ·exact hMX x q3
   ·exact .inr (Nat.le_trans H.od.size q3)
  ·rw[e1]at hh;obtain⟨q1,q2,q3⟩:=K0.eQ _ _ _ a1 hh;exact⟨q1,Nat.lt_of_lt_of_le q2 fG,q3⟩
 ·rcases kR n y hl with⟨k,z1,rfl,a1,e0,e1⟩|⟨a1,f1,g1,e1⟩
  ·rw[e1]at hs;exact KO.apart k z1 x b a1 hs hb
  ·rw[e1]at hs;have KL:=(K0.eQ _ _ _ a1 (dU hs)).2.1;intro e;rcases K.Br b hb with h3|h3|h3
   ·have Cm:F b:=h3;rw[K.od.dk b (H.Hy Cm)]at e;exact K0.apart _ _ _ b a1 hs Cm e
   ·rw[e]at h3;exact out _ _ a1 f1 g1 x (dU hs) h3
   ·rw[e]at h3;have:h.size≤x:=h3;omega
 ·by_cases hx:∃k:Nat,ids[k]? =some (some n)
  ·obtain⟨k,hk⟩:=hx;have:=kD hi hk;omega
  ·rcases Nat.lt_or_ge n c with h1|h1
   ·omega
   ·have hnk:¬∃m:Nat,ids[n - c]? =some (some m):=fun⟨m,hm⟩=>by
     simp only[p6]at hn;rw[dif_neg hx,if_neg om,if_pos ⟨m,hm⟩]at hn;cases hn
    simp only[p6]at hn;rw[dif_neg hx,if_neg om,if_neg hnk]at hn;have:=K.names _ _ hn;omega
 ·have h1:=H.od.bk b hb hMb;have h2:=H.od.dk b hb;rw[same b (Nat.lt_of_lt_of_le hb H.od.size) ?_,h1];intro hx;rw[h2]at hx;rcases hMX _ hx with k|k
  ·exact hMb k
  ·have:=H.wf.Hv b;rw[h2]at this;omega
 ·have:=H.F0 b hb;exact(K.od.cX b this).trans (H.od.cX b hb)
 ·exact(K.od.dk b (Nat.lt_of_lt_of_le hb H.od.size)).trans (H.od.dk b hb)
 ·rcases K.Br b hb with h3|h3|h3
  ·have Cm:F b:=h3;rw[K.od.dk b (H.Hy Cm)];exact H.Br b Cm
  ·exact .inr (hMX _ h3)
  ·exact .inr (.inr (Nat.le_trans H.od.size h3))
 ·have:=H.yS.1;omega
 ·exact H.yS.2.1 k l hk (hA k l (Nat.lt_of_lt_of_le hk H.yS.1) hl)
 ·exact hB k b (H.yS.2.2 k b hk hb)
end
end Go.M
namespace Go.M
open Go
def Df (run run':yH):Prop:=∀c f h r,run c f h=some r→run' c f h=some r
def wP (cf O9:fD):Prop:=∀g a h r,cf g a h=some r→O9 g a h=some r
def vx (rf Pa:eP):Prop:=∀l a h r,rf l a h=some r→Pa l a h=some r
section
variable {E:Env} {base:Nat}
theorem pH {run run':yH} (H:Df run run'):wP (gT E base run) (gT E base run'):=by
 intro g a h r hr;unfold gT at hr ⊢;simp only[Option.bind_eq_some_iff]at hr ⊢;obtain⟨fn,h1,h2⟩:=hr;refine⟨fn,h1,?_⟩;split at h2
 ·rename_i q hq;simpa[hq]using h2
 ·rename_i hq;simp only[Option.bind_eq_some_iff,aj]at h2 ⊢;obtain⟨c,h3,h4,h5⟩:=h2;refine⟨c,h3,h4,?_⟩;split at h5
  ·rename_i f' h' hx;rw[H _ _ _ _ hx];exact h5
  ·rename_i f' h' hx;rw[H _ _ _ _ hx];exact h5
  ·cases h5
theorem wQ {run run':yH} (H:Df run run'):vx (gP base run) (gP base run'):=by
 intro l a h r hr;unfold gP at hr ⊢;rw[aj]at hr ⊢;refine⟨hr.1,?_⟩;obtain⟨_,hr⟩:=hr;split at hr
 ·rename_i p f ps iL body hg;rw[aj]at hr ⊢;refine⟨hr.1,?_⟩;obtain⟨_,hr⟩:=hr;split at hr
  ·rename_i f1 h1 hx;rw[H _ _ _ _ hx];simp only
   split at hr
   ·rename_i p1 f0 fE p4 jT ma;simp only[Option.bind_eq_some_iff]at hr ⊢;obtain⟨q,h2,h3⟩:=hr;exact⟨q,H _ _ _ _ h2,h3⟩
   ·cases hr
  ·cases hr
 ·cases hr
theorem Dg {cf O9:fD} {rf Pa:eP} (H:wP cf O9) (G:vx rf Pa) {o:Oper} {f:AF} {h:ab} {r:SQ} (hr:eL E base cf rf o f h=some r):eL E base O9 Pa o f h=some r:=by
 unfold eL at hr ⊢;cases hv:aI E f o with
 |some v=>rw[hv]at hr;exact hr
 |none=>
  rw[hv]at hr;simp only at hr ⊢;cases hq:bG E f o with
  |some q=>rw[hq]at hr;exact hr
  |none=>
   rw[hq]at hr;simp only at hr ⊢;cases hm:bc E f o with
   |some m=>rw[hm]at hr;exact hr
   |none=>
    rw[hm]at hr;simp only at hr ⊢;cases he:c7 E base f o h with
    |none=>rw[he]at hr;cases hr
    |some p=>
     rw[he]at hr;obtain⟨x,h'⟩:=p;cases x with
     |val v=>exact hr
     |enter g args=>
      simp only[Option.bind_eq_some_iff]at hr ⊢;obtain⟨q,h1,h2⟩:=hr;exact⟨q,H _ _ _ _ h1,h2⟩
     |round l args=>
      simp only[Option.bind_eq_some_iff]at hr ⊢;obtain⟨q,h1,h2⟩:=hr;exact⟨q,G _ _ _ _ h1,h2⟩
theorem By {cf O9:fD} {rf Pa:eP} (H:wP cf O9) (G:vx rf Pa) {ops:List Oper}:∀{rest:List Oper} {f:AF} {h:ab} {r:AF×ab},u4 E base cf rf ops rest f h=some r→u4 E base O9 Pa ops rest f h=some r
 |[],f,h,r,hr=>hr
 |o::rest,f,h,r,hr=>by
  unfold u4 at hr ⊢;split at hr
  ·simp only[Option.bind_eq_some_iff]at hr ⊢;obtain⟨q,h1,h2⟩:=hr;exact⟨q,Dg H G h1,By H G h2⟩
  ·exact By H G hr
theorem wR {cf O9:fD} {rf Pa:eP} (H:wP cf O9) (G:vx rf Pa) {ops:List Oper}:∀{rest:List Oper} {f:AF} {h:ab} {r:AF×ab×List ee},kX E base cf rf ops rest f h=some r→kX E base O9 Pa ops rest f h=some r
 |[],f,h,r,hr=>hr
 |o::rest,f,h,r,hr=>by
  unfold kX at hr ⊢;split at hr
  ·simp only[Option.bind_eq_some_iff]at hr ⊢;obtain⟨q,h1,q2,h2,h3⟩:=hr;exact⟨q,Dg H G h1,q2,wR H G h2,h3⟩
  ·simp only[Option.bind_eq_some_iff]at hr ⊢;obtain⟨q2,h2,h3⟩:=hr;exact⟨q2,wR H G h2,h3⟩
theorem FC {run run':yH} (H:Df run run') {ops:Array Oper} {draw:Bool} {f:AF} {h:ab} {r:Ex×AF×ab} (hr:k8 E base run ops draw f h=some r):k8 E base run' ops draw f h=some r:=by
 unfold k8 at hr ⊢;split at hr
 ·simp only[Option.bind_eq_some_iff]at hr ⊢;obtain⟨q,h1,h2⟩:=hr;exact⟨q,By (pH H) (wQ H) h1,h2⟩
 ·simp only[Option.bind_eq_some_iff,aj]at hr ⊢;obtain⟨h0,q,h1,h2⟩:=hr;exact⟨h0,q,wR (pH H) (wQ H) h1,h2⟩
theorem Dh:∀{n m:Nat},n≤m→Df (a7 E base n) (a7 E base m)
 |0,m,_=>fun c f h r hr=>by simp[a7]at hr
 |n+1,0,h=>by omega
 |n+1,m+1,VY=>by
  have ih:Df (a7 E base n) (a7 E base m):=Dh om;intro c f h r hr;unfold a7 at hr ⊢;cases c with
  |skip=>exact hr
  |region id ops draw=>exact FC ih hr
  |seq a b=>
   simp only at hr ⊢;cases hx:a7 E base n a f h with
   |none=>rw[hx]at hr;cases hr
   |some q=>
    rw[hx]at hr;rw[ih _ _ _ _ hx];obtain⟨ex,f',h'⟩:=q;cases ex with
    |normal=>exact ih _ _ _ _ hr
    |exit id=>exact hr
    |ret=>exact hr
  |cond c t e=>
   simp only[Option.bind_eq_some_iff]at hr ⊢;obtain⟨v,h1,b,h2,h3⟩:=hr;refine⟨v,h1,b,h2,?_⟩;cases b<;>exact ih _ _ _ _ h3
  |block id b=>
   simp only at hr ⊢;cases hx:a7 E base n b f h with
   |none=>rw[hx]at hr;cases hr
   |some q=>rw[hx]at hr;rw[ih _ _ _ _ hx];exact hr
  |loop b=>
   simp only at hr ⊢;cases hx:a7 E base n b f h with
   |none=>rw[hx]at hr;cases hr
   |some q=>
    rw[hx]at hr;rw[ih _ _ _ _ hx];obtain⟨ex,f',h'⟩:=q;cases ex with
    |normal=>exact ih _ _ _ _ hr
    |exit id=>exact hr
    |ret=>exact hr
  |exit id=>exact hr
  |ret=>exact hr
  |rangeFunc g ps iL body=>
   simp only[Option.bind_eq_some_iff,aj]at hr ⊢;obtain⟨g',h1,h2,h3⟩:=hr;refine⟨g',h1,h2,?_⟩;split at h3
   ·simp only[Option.bind_eq_some_iff]at h3 ⊢;obtain⟨q,h4,h5⟩:=h3;refine⟨q,pH ih _ _ _ _ h4,?_⟩;split at h5
    ·rw[aj]at h5 ⊢;refine⟨h5.1,?_⟩;obtain⟨_,h5⟩:=h5;split at h5
     ·exact h5
     ·exact ih _ _ _ _ h5
    ·cases h5
   ·cases h3
  |_=>exact hr
theorem wT {n m:Nat} (h:n≤m):wP (fJ E base n) (fJ E base m):=pH (Dh h)
end
end Go.M
