/-
  Part 8 of the library that the proof leans on.
-/
import Derived.Test.YtgjfaieghmigjaaGreatDoorL7
namespace Go.M
open Go
section
variable {T E:Env} {X:Cx} {ρ:Gh} {F:Nat→Prop} {o:Ob} {c:Nat} {af:AF} {f:Fr} {h:AHeap} {p:Oper} {K:OK}
theorem find_pos {kd:TypeDesc} {k:Value} {n:Nat} (hk:kindOk kd k n=true):∀{es:List (Value×TV)} {es':List MapEntry} (i:Nat),ERs c ρ F h n es es'→
 (Instr.findNow kd k es' i=some none∧(∀v,putM es k v=es++[(k,v)])∧delM es k=es)∨
 ∃j x,j<es.length∧Instr.findNow kd k es' i=some (some (i+j,x))∧(∀v,putM es k v=es.set j (k,v))∧delM es k=es.eraseIdx j
 |[],es',i,H=>by rw[H.inv_nil];exact .inl ⟨rfl,fun _=>rfl,rfl⟩
 |e::es,es',i,H=>by
  obtain⟨e',m,rfl,h1,h2,h3,h4,h5⟩:=H.inv_cons
  unfold Instr.findNow
  rw[h1,sameNow_keq hk h2.2]
  cases hq:keq k e.1 with
  |true=>exact .inr ⟨0,e'.val,by simp,rfl,fun v=>by simp[putM,hq],by simp[delM,hq]⟩
  |false=>
   simp only
   rcases find_pos hk (i+1) h5 with⟨q1,q2,q3⟩|⟨j,x,q0,q1,q2,q3⟩
   ·exact .inl ⟨q1,fun v=>by simp[putM,hq,q2],by simp[delM,hq,q3]⟩
   ·exact .inr ⟨j+1,x,by simp;omega,by rw[q1];congr 3;omega,fun v=>by simp[putM,hq,q2],by simp[delM,hq,q3]⟩
theorem ERs.mono {kn c':Nat} {ρ':Gh} {F':Nat→Prop} {h':AHeap} {es:List (Value×TV)} {ev:List MapEntry} (H:ERs c ρ F h kn es ev) (hm:∀t v,VR c ρ F h t v→VR c' ρ' F' h' t v):ERs c' ρ' F' h' kn es ev:=
 ⟨H.1,fun i e e' q1 q2=>let⟨r1,r2,r3,r4⟩:=H.2 i e e' q1 q2;⟨r1,r2,r3,hm _ _ r4⟩⟩
theorem ERs.append1 {kn:Nat} {es:List (Value×TV)} {ev:List MapEntry} (H:ERs c ρ F h kn es ev) {k:Value} {v:TV} {x:Value} (hk:0<kn∧kcodeV k=kn) (hf:fzV v=true) (hv:VR c ρ F h v x) (b:Nat):ERs c ρ F h kn (es++[(k,v)]) (ev++[{key:=k,val:=x,born:=b}]):=by
 refine⟨by simp[H.1],fun i e e' q1 q2=>?_⟩
 by_cases hi:i<es.length
 ·rw[List.getElem?_append_left hi]at q1
  rw[List.getElem?_append_left (by rw[←H.1];exact hi)]at q2
  exact H.2 i e e' q1 q2
 ·rw[List.getElem?_append_right (by omega)]at q1
  rw[List.getElem?_append_right (by rw[←H.1];omega),←H.1]at q2
  have:i - es.length=0:=by
   rcases Nat.eq_zero_or_pos (i - es.length)with h0|h0
   ·exact h0
   ·rw[List.getElem?_eq_none (by simp;omega)]at q1;cases q1
  rw[this]at q1 q2
  simp at q1 q2
  subst q1;subst q2
  exact⟨rfl,hk,hf,hv⟩
theorem ERs.set {kn:Nat} {es:List (Value×TV)} {ev:List MapEntry} (H:ERs c ρ F h kn es ev) {k:Value} {v:TV} {x:Value} (hk:0<kn∧kcodeV k=kn) (hf:fzV v=true) (hv:VR c ρ F h v x) (j:Nat):ERs c ρ F h kn (es.set j (k,v)) (ev.modify j fun e=>{e with key:=k,val:=x}):=by
 refine⟨by simp[H.1],fun i e e' q1 q2=>?_⟩
 rw[List.getElem?_set]at q1
 rw[List.getElem?_modify]at q2
 by_cases e0:j=i
 ·subst e0
  rw[if_pos rfl]at q1
  split at q1
  ·cases q1
   cases hq:ev[j]? with
   |none=>rw[hq]at q2;simp at q2
   |some a=>rw[hq]at q2;simp at q2;subst q2;exact⟨rfl,hk,hf,hv⟩
  ·cases q1
 ·rw[if_neg e0]at q1
  cases hq:ev[i]? with
  |none=>rw[hq]at q2;simp at q2
  |some a=>
   rw[hq]at q2;simp[e0]at q2;subst q2
   exact H.2 i e _ q1 hq
theorem ERs.erase {kn:Nat} {es:List (Value×TV)} {ev:List MapEntry} (H:ERs c ρ F h kn es ev) (j:Nat):ERs c ρ F h kn (es.eraseIdx j) (ev.eraseIdx j):=by
 refine⟨by rw[List.length_eraseIdx,List.length_eraseIdx,H.1],fun i e e' q1 q2=>?_⟩
 rw[List.getElem?_eraseIdx]at q1 q2
 split at q1
 ·rename_i hlt;rw[if_pos hlt]at q2;exact H.2 _ _ _ q1 q2
 ·rename_i hlt;rw[if_neg hlt]at q2;exact H.2 _ _ _ q1 q2
theorem StL.append1 {ev:List MapEntry} {clock:Nat} (H:StL ev clock) {k v:Value}:StL (ev++[{key:=k,val:=v,born:=clock}]) (clock+1):=by
 refine⟨fun x hx=>?_,?_⟩
 ·rcases List.mem_append.1 hx with hx|hx
  ·have:=H.1 x hx;omega
  ·simp at hx;subst hx;simp
 ·rw[List.map_append,List.nodup_append]
  refine⟨H.2,by simp,fun a ha b hb=>?_⟩
  obtain⟨x,hx,rfl⟩:=List.mem_map.1 ha
  simp at hb;subst hb
  have:=H.1 x hx;omega
theorem StL.modify {ev:List MapEntry} {clock:Nat} (H:StL ev clock) (j:Nat) {f:MapEntry→MapEntry} (hf:∀e,(f e).born=e.born):StL (ev.modify j f) clock:=by
 have h1:(ev.modify j f).map (·.born)=ev.map (·.born):=by
  apply List.ext_getElem?
  intro i
  rw[List.getElem?_map,List.getElem?_map,List.getElem?_modify]
  cases ev[i]? with
  |none=>simp
  |some e=>by_cases h:j=i<;>simp[h,hf]
 refine⟨fun x hx=>?_,by rw[h1];exact H.2⟩
 have:x.born∈(ev.modify j f).map (·.born):=List.mem_map.2 ⟨x,hx,rfl⟩
 rw[h1]at this
 obtain⟨y,hy,e⟩:=List.mem_map.1 this
 rw[←e];exact H.1 y hy
theorem StL.erase {ev:List MapEntry} {clock:Nat} (H:StL ev clock) (j:Nat):StL (ev.eraseIdx j) clock:=
 ⟨fun x hx=>H.1 x (List.mem_of_mem_eraseIdx hx),((List.eraseIdx_sublist ev j).map _).nodup H.2⟩
theorem isAgg_rel {v:TV} {x:Value} (hv:VR c ρ F h v x) (ho:okV v=true):isAggT v=isAggV x:=by
 cases hv with
 |j=>simp[okV,okC]at ho
 |tup=>simp[okV,okC]at ho
 |sv=>simp[okV,okC]at ho
 |s hp=>cases x<;>first|rfl |simp[plain1]at hp
 |tk _ h1=>cases x<;>first|rfl |simp[slV]at h1
 |wp _ h1=>cases x<;>first|rfl |simp[ptV]at h1
 |_=>rfl
theorem putM_twice {kd:TypeDesc} {k:Value} {n:Nat} {v w:TV} (hk:kindOk kd k n=true):∀{es:List (Value×TV)},putM (putM es k w) k v=putM es k v
 |[]=>by simp[putM,keq_refl hk]
 |e::es=>by
  cases hq:keq k e.1 with
  |true=>simp[putM,hq,keq_refl hk]
  |false=>simp[putM,hq,putM_twice hk]
theorem ENs.upd {base:Nat} {kd:TypeDesc} {k:Value} {n:Nat} (hk:kindOk kd k n=true) (hkn:0<n∧kcodeV k=n) {v:TV} {x:Value} (hv:CNs c ρ F h base [] (cellsT v) x.cells.toList) (ha:isAggT v=isAggV x) (b:Nat):∀{M:List (Value×TV)} {ev:List MapEntry} {S:Ft} (i:Nat),ENs c ρ F h base n S M ev→
 (Instr.findNow kd k ev i=some none∧ENs c ρ F h base n S (putM M k v) (ev++[{key:=k,val:=x,born:=b}]))∨
 ∃j y S',Instr.findNow kd k ev i=some (some (i+j,y))∧ENs c ρ F h base n S' (putM M k v) (ev.modify j fun e=>{e with key:=k,val:=x})∧S'.Sublist S
 |[],ev,S,i,H=>by
  cases H
  exact .inl ⟨rfl,ENs.cons (e:=(k,v)) (S:=[]) (S':=[]) rfl hkn ha hv .nil⟩
 |e::es,ev,S,i,H=>by
  cases H with
  |cons hkey hkd ha' hv' hl=>
   rename_i Sa Sb e' m
   unfold Instr.findNow
   rw[hkey,sameNow_keq hk hkd.2]
   cases hq:keq k e.1 with
   |true=>
    refine .inr ⟨0,e'.val,Sb,rfl,?_,List.sublist_append_right _ _⟩
    simp only[putM,hq]
    exact ENs.cons (e:=(k,v)) (S:=[]) rfl hkn ha hv hl
   |false=>
    simp only[putM,hq]
    rcases ENs.upd hk hkn hv ha b (i+1) hl with⟨q1,q2⟩|⟨j,y,S',q1,q2,q3⟩
    ·exact .inl ⟨q1,.cons hkey hkd ha' hv' q2⟩
    ·exact .inr ⟨j+1,y,Sa++S',by rw[q1];congr 3;omega,.cons hkey hkd ha' hv' q2,q3.append_left _⟩
theorem ENs.del {base:Nat} {kd:TypeDesc} {k:Value} {n:Nat} (hk:kindOk kd k n=true):∀{M:List (Value×TV)} {ev:List MapEntry} {S:Ft} (i:Nat),ENs c ρ F h base n S M ev→
 (Instr.findNow kd k ev i=some none∧delM M k=M)∨
 ∃j y S',Instr.findNow kd k ev i=some (some (i+j,y))∧ENs c ρ F h base n S' (delM M k) (ev.eraseIdx j)∧S'.Sublist S
 |[],ev,S,i,H=>by cases H;exact .inl ⟨rfl,rfl⟩
 |e::es,ev,S,i,H=>by
  cases H with
  |cons hkey hkd ha' hv' hl=>
   rename_i Sa Sb e' m
   unfold Instr.findNow
   rw[hkey,sameNow_keq hk hkd.2]
   cases hq:keq k e.1 with
   |true=>exact .inr ⟨0,e'.val,Sb,rfl,by simp only[delM,hq];exact hl,List.sublist_append_right _ _⟩
   |false=>
    simp only[delM,hq]
    rcases ENs.del hk (i+1) hl with⟨q1,q2⟩|⟨j,y,S',q1,q2,q3⟩
    ·exact .inl ⟨q1,by rw[q2]⟩
    ·exact .inr ⟨j+1,y,Sa++S',by rw[q1];congr 3;omega,.cons hkey hkd ha' hv' q2,q3.append_left _⟩
theorem delM_mem {k:Value} {e:Value×TV}:∀{es:List (Value×TV)},e∈delM es k→e∈es
 |[],h=>by simp[delM]at h
 |a::l,h=>by
  unfold delM at h
  split at h
  ·exact List.mem_cons_of_mem _ h
  ·rcases List.mem_cons.1 h with rfl |h
   ·exact List.mem_cons_self
   ·exact List.mem_cons_of_mem _ (delM_mem h)
theorem wmapUpdate_ok (L:EnvLe T E) (H:Mem X ρ F o c h) {t:TypeId} {m k v:TV} {mv kv vv:Value} (hw:wmapUpdate T t m k v o c K) (hm:VR c ρ F h m mv) (hk:VR c ρ F h k kv) (hv:VR c ρ F h v vv) (hp:apure E af p=none) (hq:aread E af p=none) (hal:aalloc E af p=none)
 (he:aeff E X.base af p h=cmapUpdate E X.base t mv kv vv h):Did E X ρ F o c af h p K:=by
 unfold wmapUpdate at hw
 split at hw
 ·rename_i kt elem hd
  split at hw
  ·rename_i kd kv' hkd
   have hkv:=hk.inv_s.1
   subst hkv
   split at hw
   ·rename_i n
    have kfac:∀{kn},kindOk kd kv kn=true→0<kn∧kcodeV kv=kn:=fun {kn} hko=>by
     unfold kindOk at hko
     simp only[Bool.and_eq_true,beq_iff,blt_iff]at hko
     exact⟨hko.1.1,hko.2⟩
    have run:∀{kn b clock:Nat} {ev ev1:List MapEntry} {cl1:Nat},kindOk kd kv kn=true→mv= .map (some b)→X.base≤b→h.get b=some (.map ev clock)→
     (∃i,Instr.findNow kd kv ev 0=some i∧(match i with|some (i,_)=>ev1=(ev.modify i fun e=>{e with key:=kv,val:=vv})∧cl1=clock|none=>ev1=ev++[{key:=kv,val:=vv,born:=clock}]∧cl1=clock+1))→
     aeff E X.base af p h=some (.val undef,h.put b (.map ev1 cl1)):=by
     rintro kn b clock ev ev1 cl1 hko rfl hbase hg ⟨i,hi,h2⟩
     obtain⟨hs1,hs2⟩:=kindOk_scalar hko
     rw[he]
     unfold cmapUpdate amapUpdate
     rw[L.desc _ _ hd]
     simp only[Option.bind_some,L.desc _ _ hkd]
     rw[ble_iff.2 hbase,hs1,hs2,hg]
     simp only[Bool.and_self,grd,hi,Option.bind_some]
     cases i with
     |none=>obtain⟨rfl,rfl⟩:=h2;rfl
     |some i=>obtain⟨rfl,rfl⟩:=h2;rfl
    -- entries that name objects
    have named:∀{S:Nat→Ft} {y:TO} {kn b clock:Nat} {ev:List MapEntry} {es M:List (Value×TV)} {Sq:Ft},MO X ρ F o c h S→look o n=some y→S n=(b,true)::Sq→ρ n=some (.blk b)→h.get b=some (.map ev clock)→StL ev clock→kindOk kd kv kn=true→okV v=true→mv= .map (some b)→
     (∀e∈es,∀t∈cellsT e.2,clT t=true)→ENs c ρ F h X.base kn Sq M ev→putM M kv v=putM es kv v→K .j (upd1 o n (.maq kn es [(kv,v)])) c (.eff [n])→Did E X ρ F o c af h p K:=by
     intro S y kn b clock ev es M Sq K0 hl hS hb hg hst hko hov hmv hcl hE hMe hw
     have hnod:=K0.nod n _ hl
     rw[hS]at hnod
     obtain⟨n1,n2⟩:=List.nodup_cons.1 hnod
     have hbase:X.base≤b:=(K0.mine n _ b hl (by rw[hS];exact List.mem_cons_self)).1
     rcases hE.upd hko (kfac hko) (CNs.ofVRs (cells_rel hv hov)) (isAgg_rel hv hov) clock 0 with⟨q1,q2⟩|⟨j,x,S',q1,q2,q3⟩
     ·rw[hMe]at q2
      exact map_setG H (.refl H) K0 hl hS hg (fun _ h=>h) n2 hp hq hal (run hko hmv hbase hg ⟨_,q1,rfl,rfl⟩) (fun _ _ _ _=>.j _) (fun h' hm same frz hgn hnb=>.maq hb hgn hcl (q2.keep (T:=fun x=>x=b) H.wf same (fun _ h=>h) frz hm hnb) hst.append1) hw
     ·rw[hMe]at q2
      exact map_setG H (.refl H) K0 hl hS hg (fun _ h=>q3.subset h) ((q3.map Prod.fst).nodup n2) hp hq hal (run (ev1:=ev.modify j fun e=>{e with key:=kv,val:=vv}) (cl1:=clock) hko hmv hbase hg ⟨_,q1,by simp,rfl⟩) (fun _ _ _ _=>.j _) (fun h' hm same frz hgn hnb=>.maq hb hgn hcl (q2.keep (T:=fun x=>x=b) H.wf same (fun _ h=>h) frz hm hnb) (hst.modify j fun _=>rfl)) hw
    split at hw
    ·rename_i kn es v' hl hfr
     split at hw
     ·rename_i hko
      have hov:okV v=true:=by
       cases v<;>simp[frzV,frz]at hfr<;>rfl
      obtain⟨F1,Sh,sv⟩:=frzV_ok H v hov
      obtain⟨hv1,hfz⟩:=sv v' vv hfr hv
      obtain⟨S,K0⟩:=H.ex
      have hO:=K0.objs n _ hl
      have hmi:=fun x hx=>K0.mine n _ x hl hx
      generalize S n=Sm at hO hmi
      cases hO with
      |map hb hg hlen hc hst=>
       rename_i b clock ev
       have hE:ERs c ρ F1 h kn es ev:=ERs.mono ⟨hlen,hc⟩ Sh.keep
       cases hm with
       |mp hb'=>
        rw[hb]at hb';cases hb'
        obtain⟨y1,k1,k2⟩:=Sh.wk n _ hl
        have:y1= .map kn es:=by cases y1<;>simp[weak]at k2;obtain⟨rfl,rfl⟩:=k2;rfl
        subst this
        have hbase:X.base≤b:=(hmi b List.mem_cons_self).1
        rcases find_pos hko 0 hE with⟨q1,q2,q3⟩|⟨j,x,q0,q1,q2,q3⟩
        ·refine map_set H Sh k1 hb hg (hE.append1 (kfac hko) hfz hv1 clock) hst.append1 hp hq hal (run hko rfl hbase hg ⟨_,q1,rfl,rfl⟩) (fun _ _ _ _=>.j _) ?_
         rw[q2]at hw;exact hw
        ·refine map_set H Sh k1 hb hg (hE.set (kfac hko) hfz hv1 j) (hst.modify j fun _=>rfl) hp hq hal (run hko rfl hbase hg ⟨_,q1,by simp,rfl⟩) (fun _ _ _ _=>.j _) ?_
         rw[q2]at hw;exact hw
     ·exact hw.elim
    ·rename_i kn es hl hfr
     split at hw
     ·rename_i hc0
      simp only[Bool.and_eq_true]at hc0
      obtain⟨hko,hov⟩:=hc0
      obtain⟨S,K0⟩:=H.ex
      have hO:=K0.objs n _ hl
      generalize hS:S n=Sm at hO
      cases hO with
      |map hb hg hlen hc hst=>
       cases hm with
       |mp hb'=>
        rw[hb]at hb';cases hb'
        have hcr:=CR.fzes (base:=X.base) hlen hc
        exact named K0 hl hS hb hg hst hko hov rfl (hcr.escl _ _ _ rfl) (ENs.ofCR hcr _ _ _ rfl) rfl hw
     ·exact hw.elim
    ·rename_i kn es hl
     split at hw
     ·rename_i hc0
      simp only[Bool.and_eq_true]at hc0
      obtain⟨hko,hov⟩:=hc0
      obtain⟨S,K0⟩:=H.ex
      have hO:=K0.objs n _ hl
      generalize hS:S n=Sm at hO
      cases hO with
      |maq hb hg hcl hc hst=>
       cases hm with
       |mp hb'=>
        rw[hb]at hb';cases hb'
        exact named K0 hl hS hb hg hst hko hov rfl hcl hc rfl hw
     ·exact hw.elim
    ·rename_i kn es k' w hl
     split at hw
     ·rename_i hc0
      simp only[Bool.and_eq_true]at hc0
      obtain⟨hko,hov⟩:=hc0
      obtain⟨rfl,hw⟩:=hw
      obtain⟨S,K0⟩:=H.ex
      have hO:=K0.objs n _ hl
      generalize hS:S n=Sm at hO
      cases hO with
      |maq hb hg hcl hc hst=>
       cases hm with
       |mp hb'=>
        rw[hb]at hb';cases hb'
        exact named K0 hl hS hb hg hst hko hov rfl hcl hc (putM_twice hko) hw
     ·exact hw.elim
    ·exact hw.elim
   ·exact hw.elim
  ·exact hw.elim
 ·exact hw.elim
theorem wdelete_ok (L:EnvLe T E) (H:Mem X ρ F o c h) {t:TypeId} {m k:TV} {mv kv:Value} (hw:wdelete T t m k o c K) (hm:VR c ρ F h m mv) (hk:VR c ρ F h k kv) (hp:apure E af p=none) (hq:aread E af p=none) (hal:aalloc E af p=none)
 (he:aeff E X.base af p h=(adelete E X.base h t mv kv).bind fun r=>some (.val r.1,r.2)):Did E X ρ F o c af h p K:=by
 have htup:∀(c:Nat) (ρ:Gh) (F:Nat→Prop) (h:AHeap),VR c ρ F h (.tup []) (.tuple #[]):=fun _ _ _ _=>.tup_of .nil
 unfold wdelete at hw
 split at hw
 ·rename_i kt elem hd
  split at hw
  ·rename_i kd kv' n hkd
   have hkv:=hk.inv_s.1
   subst hkv
   have run:∀{kn b clock:Nat} {ev ev1:List MapEntry},kindOk kd kv kn=true→mv= .map (some b)→X.base≤b→h.get b=some (.map ev clock)→(∃i,Instr.findNow kd kv ev 0=some i∧ev1=(match i with|some (i,_)=>ev.eraseIdx i|none=>ev))→aeff E X.base af p h=some (.val (.tuple #[]),h.put b (.map ev1 clock)):=by
    rintro kn b clock ev ev1 hko rfl hbase hg ⟨i,hi,rfl⟩
    obtain⟨hs1,hs2⟩:=kindOk_scalar hko
    rw[he]
    unfold adelete
    rw[L.desc _ _ hd]
    simp only[Option.bind_some,L.desc _ _ hkd]
    rw[ble_iff.2 hbase,hs1,hs2,hg]
    simp only[Bool.and_self,grd,hi,Option.bind_some]
    cases i<;>rfl
   obtain⟨S,K0⟩:=H.ex
   split at hw
   ·rename_i kn es hl
    split at hw
    ·rename_i hko
     have hO:=K0.objs n _ hl
     have hmi:=fun x hx=>K0.mine n _ x hl hx
     generalize S n=Sm at hO hmi
     cases hO with
     |map hb hg hlen hc hst=>
      rename_i b clock ev
      have hE:ERs c ρ F h kn es ev:=⟨hlen,hc⟩
      cases hm with
      |mp hb'=>
       rw[hb]at hb';cases hb'
       have hbase:X.base≤b:=(hmi b List.mem_cons_self).1
       rcases find_pos hko 0 hE with⟨q1,q2,q3⟩|⟨j,x,q0,q1,q2,q3⟩
       ·refine map_set H (.refl H) hl hb hg hE hst hp hq hal (run (ev1:=ev) hko rfl hbase hg ⟨_,q1,rfl⟩) htup ?_
        rw[q3]at hw;exact hw
       ·refine map_set H (.refl H) hl hb hg (hE.erase j) (hst.erase j) hp hq hal (run (ev1:=ev.eraseIdx j) hko rfl hbase hg ⟨_,q1,by simp⟩) htup ?_
        rw[q3]at hw;exact hw
    ·exact hw.elim
   ·rename_i kn es hl
    split at hw
    ·rename_i hko
     have hO:=K0.objs n _ hl
     have hmi:=fun x hx=>K0.mine n _ x hl hx
     have hnod:=K0.nod n _ hl
     generalize hS:S n=Sm at hO hmi hnod
     cases hO with
     |maq hb hg hcl hc hst=>
      rename_i Sq b clock ev
      cases hm with
      |mp hb'=>
       rw[hb]at hb';cases hb'
       have hbase:X.base≤b:=(hmi b List.mem_cons_self).1
       obtain⟨n1,n2⟩:=List.nodup_cons.1 hnod
       have hE:ENs c ρ F h X.base kn Sq es ev:=hc
       rcases hE.del hko 0 with⟨q1,q2⟩|⟨j,x,S',q1,q2,q3⟩
       ·rw[q2]at hw
        exact map_setG H (.refl H) K0 hl hS hg (fun _ h=>h) n2 hp hq hal (run (ev1:=ev) hko rfl hbase hg ⟨_,q1,rfl⟩) htup (fun h' hm same frz hgn hnb=>.maq hb hgn hcl (hE.keep (T:=fun x=>x=b) H.wf same (fun _ h=>h) frz hm hnb) hst) hw
       ·exact map_setG H (.refl H) K0 hl hS hg (fun _ h=>q3.subset h) ((q3.map Prod.fst).nodup n2) hp hq hal (run (ev1:=ev.eraseIdx j) hko rfl hbase hg ⟨_,q1,by simp⟩) htup (fun h' hm same frz hgn hnb=>.maq hb hgn (fun e he=>hcl e (delM_mem he)) (q2.keep (T:=fun x=>x=b) H.wf same (fun _ h=>h) frz hm hnb) (hst.erase j)) hw
    ·exact hw.elim
   ·exact hw.elim
  ·exact hw.elim
 ·exact hw.elim
theorem wclear_ok (H:Mem X ρ F o c h) {t:TypeId} {n kn:Nat} {y:TO} {mv:Value} (hl:look o n=some y) (hy:(∃es,y= .map kn es)∨∃es op,y= .maq kn es op) (hw:K (.tup []) (upd1 o n (.map kn [])) c (.eff [n])) (hm:VR c ρ F h (.mp n) mv) (hp:apure E af p=none) (hq:aread E af p=none) (hal:aalloc E af p=none)
 (hd:(E.desc t).isSome=true) (he:aeff E X.base af p h=((E.desc t).bind fun _=>aclear E X.base h t mv).bind fun r=>some (.val r.1,r.2)):Did E X ρ F o c af h p K:=by
 obtain⟨S,K0⟩:=H.ex
 have hO:=K0.objs n _ hl
 have hmi:=fun x hx=>K0.mine n _ x hl hx
 obtain⟨d,hd⟩:=Option.isSome_iff_exists.1 hd
 have main:∀{b clock:Nat} {ev:List MapEntry} {Sq:Ft},S n=(b,true)::Sq→ρ n=some (.blk b)→h.get b=some (.map ev clock)→Did E X ρ F o c af h p K:=by
  intro b clock ev Sq hS hb hg
  cases hm with
  |mp hb'=>
   rw[hb]at hb';cases hb'
   have hbase:X.base≤b:=(hmi b (by rw[hS];exact List.mem_cons_self)).1
   refine map_setG H (.refl H) K0 (S':=[]) (ev1:=[]) (clock':=clock) hl hS hg (by simp) (by simp[hds]) hp hq hal ?_ (fun _ _ _ _=>.tup_of .nil) (fun h' hm same frz hgn hnb=>.map hb hgn rfl (fun i e e' q=>by simp at q) ⟨by simp,by simp⟩) hw
   rw[he,hd]
   unfold aclear
   simp only[Option.bind_some]
   rw[ble_iff.2 hbase,hg]
   rfl
 generalize hS:S n=Sm at hO
 rcases hy with⟨es,rfl⟩|⟨es,op,rfl⟩
 ·cases hO with
  |map hb hg hlen hc hst=>exact main hS hb hg
 ·cases hO with
  |maq hb hg hcl hc hst=>exact main hS hb hg
theorem ER.take {z:Nat} {es:List (List TV)} {cs:List Value} (A:ER c ρ F h z es cs) {i:Nat} (hi:i≤es.length):ER c ρ F h z (es.take i) (cs.take (i*z)):=by
 have hle:i*z≤es.length*z:=Nat.mul_le_mul_right z hi
 refine⟨by rw[List.length_take,List.length_take,A.len,Nat.min_eq_left hi,Nat.min_eq_left hle],fun e he=>A.each e (List.mem_of_mem_take he),fun e he=>A.fz e (List.mem_of_mem_take he),fun a b e t v q1 q2 q3=>?_⟩
 rw[List.getElem?_take]at q1 q3
 split at q1
 ·split at q3
  ·exact A.cell a b e t v q1 q2 q3
  ·cases q3
 ·cases q1
theorem wclearS_ok (L:EnvLe T E) (H:Mem X ρ F o c h) {t elem:TypeId} {m i z:Nat} {zv xv:Value} {zs:List TV} {es:List (List TV)} (hd:T.desc t=some (.slice elem)) (hz:T.zero elem=some zv) (hl:look o m=some (.arr z true es)) (hzs:zcells zv=some zs)
 (hc:(zs.all fz&&Nat.beq zs.length z&&zs.all okC)=true) (hw:(es.length≤i→K (.tup []) o c (.eff [m]))∧(i<es.length→K (.tup []) (upd1 o m (.arr z true (es.take i++List.replicate (es.length - i) zs))) c (.eff [m])))
 (hx:VR c ρ F h (.sv m i) xv) (hp:apure E af p=none) (hq:aread E af p=none) (hal:aalloc E af p=none)
 (he:aeff E X.base af p h=((E.desc t).bind fun _=>aclear E X.base h t xv).bind fun r=>some (.val r.1,r.2)):Did E X ρ F o c af h p K:=by
 simp only[Bool.and_eq_true,beq_iff]at hc
 obtain⟨⟨hfz,hzl⟩,hok⟩:=hc
 obtain⟨hz',hpl⟩:=L.zero _ _ hz
 have hzr:VRs c ρ F h zs zv.cells.toList:=zcells_rel hpl hzs
 have nop:∀a cap,xv= .slice a 0 cap→(a=none∨∃b q z1,a=some ⟨b,q,some z1⟩)→es.length≤i→Did E X ρ F o c af h p K:=by
  rintro a cap rfl ha hle
  refine Did.eff H (v:=.tup []) (x:=.tuple #[]) hp hq hal ?_ (.refl H) (.tup_of .nil) (Raw.refl [m]) (hw.1 hle)
  rw[he,L.desc _ _ hd]
  rcases ha with rfl |⟨b,q,z1,rfl⟩<;>rfl
 obtain⟨S,K0⟩:=H.ex
 have hO:=K0.objs m _ hl
 generalize hS:S m=Sm at hO
 cases hx with
 |sv hn h1 ha h0=>
  cases hO with
  |nil hb hz0=>
   rcases h0 _ hb with rfl |⟨b,o',z',cap,rfl⟩
   ·exact nop _ _ rfl (.inl rfl) (Nat.zero_le _)
   ·exact nop _ _ rfl (.inr ⟨_,_,_,rfl⟩) (Nat.zero_le _)
  |arr hb hg hf htt hbf hz0 hlen' hee' hfz' hc' hF=>
   rename_i b f t0 th0 thr cs
   obtain⟨q,cap,rfl,hq'⟩:=ha _ _ _ hb
   by_cases hi:i<es.length
   ·obtain rfl:=hq' hi
    have hE:ER c ρ F h z es cs:=⟨hlen',hee',hfz',hc'⟩
    have hrd:=rd_of hf htt (cellsOf_get hg)
    have hR:=ER.replicate hzr hzl hfz (es.length - i)
    have hRl:=hR.len
    rw[List.length_replicate]at hRl
    have hiz:i*z+(es.length - i)*z=es.length*z:=by rw[←Nat.add_mul];congr 1;omega
    obtain⟨cs1,hcs1⟩:=setN_ex (n:=i*z) (l:=cs) (xs:=repeatL zv.cells.toList (es.length - i)) (by rw[hlen',hRl];omega)
    have hcs2:cs1=cs.take (i*z)++repeatL zv.cells.toList (es.length - i):=by
     rw[setN_eq hcs1,List.drop_drop,List.drop_eq_nil_of_le (by rw[hlen',hRl];omega),List.append_nil]
    have hE2:ER c ρ F h z (es.take i++List.replicate (es.length - i) zs) cs1:=by rw[hcs2];exact(hE.take (Nat.le_of_lt hi)).append hR
    have hfS:(f,true)∈S m:=by rw[hS];exact List.mem_cons_self
    have hmine:=K0.mine m _ f hl (mem_hds hfS)
    have hble:X.base≤b:=by have:=H.wf.le _ _ _ _ _ hg;omega
    have W:=wrH_ok (cs':=cs1) H.wf hg hf
    obtain⟨t',th',hg'⟩:=W.self
    have hlen2:(es.take i++List.replicate (es.length - i) zs).length=es.length:=by simp;omega
    obtain⟨M,hk⟩:=H.set K0 (y':=.arr z true (es.take i++List.replicate (es.length - i) zs)) (S0:=[(f,true)]) hl hfS (fun p hp=>by simp only[List.mem_singleton]at hp;subst hp;exact hfS) (by simp[hds]) W.size W.wf W.same W.hds fun hm _=>
     OR.arr' (by rw[hlen2];exact hb) hg' W.fam (Nat.le_refl _) hbf hz0 (hE2.mono hm) (fun h=>by cases h)
    refine Did.eff H (v:=.tup []) (x:=.tuple #[]) hp hq hal ?_ (nx_of H (.refl H) M hk (fun _ h=>h) (by rw[W.size];exact Nat.le_refl _) fun b' cs' hb' hr'=>rd_same H.wf W.same (K0.apart m _ _ b' hl hfS hb') hr') (.tup_of .nil)
     (raw_set H (.refl H) K0 hl (mem_hds hfS) W.same) (hw.2 hi)
    rw[he,L.desc _ _ hd]
    unfold aclear
    simp only[Option.bind_some]
    have hn0:Nat.beq (es.length - i) 0=false:=by
     cases hbq:Nat.beq (es.length - i) 0 with
     |false=>rfl
     |true=>have:=beq_iff.1 hbq;omega
    rw[hn0]
    simp only[cond_false,L.desc _ _ hd,Option.bind_some,hz',okC_all hok hzr,grd,hrd,hcs1,wr_of hg hf hble hbf]
   ·exact nop _ _ (by rw[show es.length - i=0 by omega]) (.inr ⟨_,_,_,rfl⟩) (by omega)
end
end Go.M
namespace Go.M
open Go
section
variable {T E:Env} {X:Cx} {ρ:Gh} {F:Nat→Prop} {o:Ob} {c:Nat} {af:AF} {f:Fr} {h:AHeap} {p:Oper} {K:OK}
theorem size_le {k bytes:Nat} (hk:k<1048576) (hb:bytes<1048576):(k+1)*(bytes+1)≤1099511627776:=by
 have h1:(k+1)*(bytes+1)≤1048576*1048576:=Nat.mul_le_mul hk hb
 exact h1
theorem Mem.newNilG (H:Mem X ρ F o c h) {z:Nat} {y:TO} (hor:∀(c:Nat) (ρ:Gh) (F:Nat→Prop) (n:Nat),ρ n=some (.nil z)→OR c ρ F h X.base n [] y):Mem X (updG ρ c (some (.nil z))) F ((c,y)::o) (c+1) h∧∀t v,VR c ρ F h t v→VR (c+1) (updG ρ c (some (.nil z))) F h t v:=by
 obtain⟨S,K⟩:=H.ex
 refine H.change K (fun _=>False) c y [] (Nat.le_refl _) H.wf (fun _ hf=>hf.elim) (fun _ _ _=>rfl) (fun _ _ _ hr=>hr) (fun _ _=>rfl) (fun _ hb=>hb) (fun _ hb hn=>absurd hb hn) (by omega) (H.upd_A _) (H.upd_B _) (H.upd_N _)
  (fun m y' hne hl=>?_) (fun y' hl=>?_) (hor _ _ _ _ (updG_self _ _ _)) (by simp[hds]) (by simp[hds]) (by simp)
 ·rw[look_cons,if_neg (fun e=>hne e.symm)]at hl
  exact⟨hl,updG_ne _ _ hne,fun _ _ hf=>hf.elim⟩
 ·rw[look_cons,if_pos rfl,Option.some.injEq]at hl;exact hl.symm
theorem Mem.moveG (H:Mem X ρ F o c h) {S:Nat→Ft} (K:MO X ρ F o c h S) {m z l b0:Nat} {y y':TO} {S0:Ft} {h':AHeap} (hl:look o m=some y) (hb:ρ m=some (.arr b0 z l)) (hsz:h.size≤h'.size) (hwf:Wf h') (same:∀b,b<h.size→h'.get b=h.get b)
 (frz:∀b cs,F b→h.rd b=some cs→h'.rd b=some cs) (hsub:∀p∈S0,p∈S m∨p.1=h.size) (hnd:(hds S0).Nodup) (hlt:∀x∈hds S0,x<h'.size) (fl:Bool) (hfl:fl=true→(h'.rd h.size).isSome=true∧hd h' h.size=h.size∧∀x,(x,true)∈S0→h.size≠x) {q:Loc} (_:∀b,q≠ .blk b)
 (hor:(∀t v,VR c ρ F h t v→VR (c+1) (updG (updG ρ m none) c (some q)) (fun x=>F x∨(fl=true∧x=h.size)) h' t v)→OR (c+1) (updG (updG ρ m none) c (some q)) (fun x=>F x∨(fl=true∧x=h.size)) h' X.base c S0 y'):
 Mem X (updG (updG ρ m none) c (some q)) (fun x=>F x∨(fl=true∧x=h.size)) ((c,y')::drop1 o m) (c+1) h'∧∀t v,VR c ρ F h t v→VR (c+1) (updG (updG ρ m none) c (some q)) (fun x=>F x∨(fl=true∧x=h.size)) h' t v:=by
 have hm:=H.lt hl
 have hρ:∀n,n≠m→n≠c→updG (updG ρ m none) c (some q) n=ρ n:=fun n h1 h2=>by rw[updG_ne _ _ h2,updG_ne _ _ h1]
 have hA:∀n l',n<c→updG (updG ρ m none) c (some q) n=some l'→ρ n=some l':=fun n l' hn h1=>by
  by_cases e:n=m
  ·subst e;rw[updG_ne _ _ (by omega),updG_self]at h1;cases h1
  ·rwa [hρ n e (by omega)]at h1
 have hB:∀n b',ρ n=some (.blk b')→updG (updG ρ m none) c (some q) n=some (.blk b'):=fun n b' hn=>by
  have:=H.names _ _ hn
  by_cases e:n=m
  ·subst e;rw[hb]at hn;cases hn
  ·rwa [hρ n e (by omega)]
 have hmono:∀t v,VR c ρ F h t v→VR (c+1) (updG (updG ρ m none) c (some q)) (fun x=>F x∨(fl=true∧x=h.size)) h' t v:=fun t v=>VR.mono (by omega) hA hB (fun _ hb=>.inl hb) frz
 have hdrop:∀n y1,n≠c→look ((c,y')::drop1 o m) n=some y1→n≠m∧look o n=some y1:=fun n y hne hy=>by
  rw[look_cons,if_neg (fun e=>hne e.symm),look_drop1]at hy
  by_cases e:n=m
  ·rw[if_pos e]at hy;cases hy
  ·rw[if_neg e]at hy;exact⟨e,hy⟩
 have hin:∀x∈hds S0,x∈hds (S m)∨x=h.size:=fun x hx=>by
  obtain⟨p,hp,rfl⟩:=List.mem_map.1 hx
  rcases hsub p hp with h1|e
  ·exact .inl (List.mem_map.2 ⟨p,h1,rfl⟩)
  ·exact .inr e
 refine H.change K (fun _=>False) c y' S0 hsz hwf (fun _ hf=>hf.elim) (fun b hb _=>same b hb) frz (fun b hb=>by unfold hd;rw[same b hb]) (fun _ hb=>.inl hb) (fun b hb hn=>?_) (by omega) hA hB (fun n l' hn=>?_)
  (fun n y' hne hy=>?_) (fun y' hy=>?_) (hor hmono) hnd (fun x hx=>?_) fun x b hx hb=>?_
 ·rcases hb with hb|⟨hf,rfl⟩
  ·exact absurd hb hn
  ·obtain⟨g1,g2,g3⟩:=hfl hf
   refine⟨g1,fun n y1 x hne hy hx e=>?_,fun x hx=>by rw[g2];exact g3 x hx,.inr (by rw[g2];exact H.evo.size)⟩
   rw[g2]at e;subst e
   have:=(K.mine n y1 _ (hdrop n y1 hne hy).2 (mem_hds hx)).2.1
   omega
 ·by_cases e:n=c
  ·omega
  ·by_cases e2:n=m
   ·omega
   ·rw[hρ n e2 e]at hn;have:=H.names _ _ hn;omega
 ·obtain⟨h1,h2⟩:=hdrop n y' hne hy
  exact⟨h2,hρ n h1 hne,fun _ _ hf=>hf.elim⟩
 ·rw[look_cons,if_pos rfl,Option.some.injEq]at hy;exact hy.symm
 ·rcases hin x hx with h1|rfl
  ·obtain⟨q1,q2,q3⟩:=K.mine m y x hl h1
   refine⟨q1,hlt x hx,q3,fun n y1 hne hy hh=>?_⟩
   obtain⟨h3,h4⟩:=hdrop n y1 hne hy
   exact h3 (K.heads n m y1 _ _ h4 hl hh h1)
  ·refine⟨H.bsz,hlt _ hx,.inr H.evo.size,fun n y1 hne hy hh=>?_⟩
   obtain⟨h3,h4⟩:=hdrop n y1 hne hy
   have:=(K.mine n y1 _ h4 hh).2.1
   omega
 ·rcases hsub _ hx with h1|e
  ·exact K.apart m y x b hl h1 hb
  ·simp only at e
   subst e
   have:=H.wf.hd_le b
   have:=H.Flt hb
   omega
theorem OR.named {base m n c':Nat} {ρ':Gh} {S:Ft} {y:TO} (W:Wf h) (H:OR c ρ F h base m S y) (hm:∀t v,VR c ρ F h t v→VR c' ρ' F h t v) (hρ:ρ' n=ρ m):OR c' ρ' F h base n S y:=by
 have kk:∀{S:Ft} {l:List TV} {vs:List Value},CNs c ρ F h base S l vs→CNs c' ρ' F h base S l vs:=fun hc=>hc.keep (T:=fun _=>False) W (fun _ _ _=>rfl) (fun _ h=>h) (fun _ _ _ h=>h) hm (fun _ _ hf=>hf.elim)
 cases H with
 |cells hb hg ht hc=>exact .cells (hρ.trans hb) hg ht (kk hc)
 |map hb hg hl hc hst=>exact .map (hρ.trans hb) hg hl (fun i e e' h1 h2=>let⟨q1,q2,q3,q4⟩:=hc i e e' h1 h2;⟨q1,q2,q3,hm _ _ q4⟩) hst
 |nil hb hz=>exact .nil (hρ.trans hb) hz
 |arr hb hg hf ht hbf hz hl he hfz hc hF=>exact .arr (hρ.trans hb) hg hf ht hbf hz hl he hfz (fun i j e t v q1 q2 q3=>hm _ _ (hc i j e t v q1 q2 q3)) hF
 |qnil hb hz=>exact .qnil (hρ.trans hb) hz
 |arq hb hg hf ht hbf hz hl he hcl hop hc=>exact .arq (hρ.trans hb) hg hf ht hbf hz hl he hcl hop (kk hc)
 |maq hb hg hcl hc hst=>exact .maq (hρ.trans hb) hg hcl (hc.keep (T:=fun _=>False) W (fun _ _ _=>rfl) (fun _ h=>h) (fun _ _ _ h=>h) hm (fun _ _ hf=>hf.elim)) hst
 |bag hb hg=>exact .bag (hρ.trans hb) hg
theorem Mem.rename (H:Mem X ρ F o c h) {m z:Nat} {y:TO} (hl:look o m=some y) {b l:Nat} (hb:ρ m=some (.arr b z l)):
 Mem X (updG (updG ρ m none) c (some (.arr b z l))) F ((c,y)::drop1 o m) (c+1) h∧∀t v,VR c ρ F h t v→VR (c+1) (updG (updG ρ m none) c (some (.arr b z l))) F h t v:=by
 obtain⟨S,K⟩:=H.ex
 have e:(fun x=>F x∨(false=true∧x=h.size))=F:=by funext x;simp
 have:=H.moveG K (S0:=S m) (y':=y) (q:=.arr b z l) hl hb (Nat.le_refl _) H.wf (fun _ _=>rfl) (fun _ _ _ h=>h) (fun p hp=>.inl hp) (K.nod m y hl) (fun x hx=>(K.mine m y x hl hx).2.1) false (fun h=>by cases h) (by simp) fun hm=>by
  rw[e]at hm ⊢
  exact(K.objs m y hl).named H.wf hm ((updG_self _ _ _).trans hb.symm)
 rwa [e]at this
theorem content_rel (H:Mem X ρ F o c h) {x:TV} {zx n:Nat} {xs:List (List TV)} {op:List (Nat×List TV)} (he:esQ o x=some (zx,xs,op)) (hz:zx=n∨zx=0∧op=[]) (hop:∀p∈op,p.2.all plainC=true) {xv:Value} (hx:VR c ρ F h x xv):
 lenV xv=some xs.length∧(∀p∈op,p.1<xs.length∧p.2.length=n)∧(∀e∈xs,∀t∈e,fz t=true)∧(xs=[]∨∃new,firstV h n xs.length xv=some new∧(op=[]→ER c ρ F h n xs new)∧new.length=xs.length*n∧(∀e∈xs,e.length=n)∧VRs c ρ F h (apOp xs op).flatten new):=by
 have done:∀{xs:List (List TV)} {new:List Value},ER c ρ F h n xs new→firstV h n xs.length xv=some new→lenV xv=some xs.length→lenV xv=some xs.length∧(∀p∈([]:List (Nat×List TV)),p.1<xs.length∧p.2.length=n)∧(∀e∈xs,∀t∈e,fz t=true)∧(xs=[]∨∃new,firstV h n xs.length xv=some new∧(([]:List (Nat×List TV))=[]→ER c ρ F h n xs new)∧new.length=xs.length*n∧(∀e∈xs,e.length=n)∧VRs c ρ F h (apOp xs []).flatten new):=
  fun E h1 h2=>⟨h2,by simp,E.fz,.inr ⟨_,h1,fun _=>E,E.len,E.each,VRs_flatten E.len E.each E.cell⟩⟩
 unfold esQ at he
 split at he
 ·rename_i m
  split at he
  ·rename_i z w es hl
   cases he
   obtain⟨Sm,hO⟩:=H.objs hl
   cases hx with
   |tk hn h1c ha h0=>
    cases hO with
    |nil hb hz'=>
     rcases h0 _ hb with rfl |⟨b,o',cs,q1,q2,q3,q4,rfl⟩
     ·exact⟨rfl,by simp,by simp,.inl rfl⟩
     ·exact⟨rfl,by simp,by simp,.inl rfl⟩
    |arr hb hg hf ht hbf hz' hlen he hfz hc hF=>
     rename_i b f t0 th0 thr cs
     obtain⟨cap,h1,rfl⟩:=ha _ _ _ hb
     have hzn:zx=n:=by omega
     subst hzn
     refine done ⟨hlen,he,hfz,hc⟩ ?_ rfl
     simp only[firstV,M.readCells,rd_of hf ht (cellsOf_get hg),Option.bind_some,List.drop_zero,takeN_some]
     rw[←hlen];simp
  ·rename_i z es op' hl
   split at he
   ·rename_i hall
    cases he
    obtain⟨Sm,hO⟩:=H.objs hl
    have hfz:∀e∈xs,∀t∈e,fz t=true:=fun e he t ht=>List.all_eq_true.1 (List.all_eq_true.1 hall e he) t ht
    cases hx with
    |tk hn h1c ha h0=>
     cases hO with
     |qnil hb hz'=>
      rcases h0 _ hb with rfl |⟨b,o',cs,q1,q2,q3,q4,rfl⟩
      ·exact⟨rfl,by simp,by simp,.inl rfl⟩
      ·exact⟨rfl,by simp,by simp,.inl rfl⟩
     |arq hb hg hf ht hbf hz' hlen he hcl hop' hc=>
      rename_i b f t0 th0 thr cs
      obtain⟨cap,h1,rfl⟩:=ha _ _ _ hb
      have hzn:zx=n:=by omega
      subst hzn
      have hpl:(apOp xs op).flatten.all plainC=true:=by
       rw[List.all_eq_true]
       intro t ht
       obtain⟨e,h1,h2⟩:=List.mem_flatten.1 ht
       have key:∀(op:List (Nat×List TV)),(∀p∈op,p.2.all plainC=true)→e∈apOp xs op→plainC t=true:=by
        intro op
        induction op with
        |nil=>intro _ h1;have:=hfz e h1 t h2;cases t<;>first|rfl |simp[fz]at this
        |cons p l ih=>
         intro hop h1
         rcases List.mem_or_eq_of_mem_set h1 with h3|rfl
         ·exact ih (fun q hq=>hop q (List.mem_cons_of_mem _ hq)) h3
         ·exact List.all_eq_true.1 (hop p List.mem_cons_self) t h2
       exact key op hop h1
      obtain⟨hV,_⟩:=hc.vrs (fun t v hv hf=>hv.fzmono hf) hpl
      refine⟨rfl,hop',hfz,.inr ⟨cs,?_,fun e=>?_,hlen,he,hV⟩⟩
      ·simp only[firstV,M.readCells,rd_of hf ht (cellsOf_get hg),Option.bind_some,List.drop_zero,takeN_some]
       rw[←hlen];simp
      ·subst e
       refine⟨hlen,he,hfz,fun i j e t v q1 q2 q3=>?_⟩
       obtain⟨f1,f2⟩:=flatten_row he q1
       refine hV.2 (i*zx+j) t v ?_ q3
       show xs.flatten[i*zx+j]? =some t
       have hj:j<zx:=by rw[←he e (List.mem_of_getElem? q1)];exact(List.getElem?_eq_some_iff.1 q2).1
       rw[←f1,List.getElem?_take,if_pos hj,List.getElem?_drop]at q2
       exact q2
   ·cases he
  ·cases he
 ·cases he
  cases hx with
  |nil h1=>subst h1;exact⟨rfl,by simp,by simp,.inl rfl⟩
  |sl q1 q2 q3 q4 q5 q6 q7 q8 q9 q10=>
   rename_i b oo len cap cs
   have hzn:zx=n:=by omega
   subst hzn
   refine done (new:=(cs.drop oo).take (xs.length*zx)) ⟨by simp;rw[←q4]at q7;omega,q8,q9,fun i j e t v r1 r2 r3=>?_⟩ ?_ (by simp[lenV,q4])
   ·rw[List.getElem?_take]at r3
    split at r3
    ·rw[List.getElem?_drop]at r3
     exact q10 i j e t v r1 r2 (by rw[←r3];congr 1;omega)
    ·cases r3
   ·simp only[firstV,M.readCells,q2,Option.bind_some,takeN_some,and_true,List.length_drop]
    rw[←q4]at q7;omega
 ·cases he
theorem ER.oneC {z:Nat} {es:List (List TV)} {cs:List Value} (A:ER c ρ F h z es cs) (hz:0<z):cs.all M.oneC=true:=by
 rw[List.all_eq_true]
 intro v hv
 obtain⟨k,hk⟩:=List.getElem?_of_mem hv
 have hkl:k<cs.length:=(List.getElem?_eq_some_iff.1 hk).1
 rw[A.len]at hkl
 have hi:k / z<es.length:=by
  rw[Nat.div_lt_iff_lt_mul hz];exact hkl
 obtain⟨e,he⟩:∃e,es[k / z]? =some e:=⟨_,List.getElem?_eq_getElem hi⟩
 have hel:=A.each e (List.mem_of_getElem? he)
 have hj:k % z<e.length:=by rw[hel];exact Nat.mod_lt _ hz
 obtain⟨t,ht⟩:∃t,e[k % z]? =some t:=⟨_,List.getElem?_eq_getElem hj⟩
 have hkk:k / z*z+k % z=k:=by rw[Nat.mul_comm];exact Nat.div_add_mod k z
 have hvr:=A.cell (k / z) (k % z) e t v he ht (by rw[hkk];exact hk)
 have hfz:=A.fz e (List.mem_of_getElem? he) t (List.mem_of_getElem? ht)
 have hoc:okC t=true:=by
  cases t<;>simp[M.fz]at hfz<;>rfl
 exact okC_one hoc hvr
def cappend (E:Env) (base:Nat) (st xt:TypeId) (s x:Value) (h:AHeap):Option (ARes×AHeap):=(aappend E base h st xt s x).bind fun r=>some (.val r.1,r.2)
structure AppT (E:Env) (st xt elem n bytes:Nat):Prop where
 sd:E.desc st=some (.slice elem)
 xd:∃e,E.desc xt=some (.slice e)
 size:E.size elem=some n
 bytes:E.bytes elem=some bytes
 zero:∃z,E.zero elem=some z∧z.cells.size=n
theorem app_none {base st xt elem n bytes:Nat} (A:AppT E st xt elem n bytes) {s x:Value} (hs:slV s=true) (hs0:∀l k,s= .slice none l k→l=0∧k=0) (hs1:∀b oo sp l k,s= .slice (some ⟨b,oo,sp⟩) l k→sp.isSome) (hx:lenV x=some 0):aappend E base h st xt s x=some (s,h):=by
 obtain⟨e,hxd⟩:=A.xd
 obtain⟨z,hz1,hz2⟩:=A.zero
 unfold aappend
 rw[A.sd,hxd]
 simp only[Option.bind_some,A.size,A.bytes,hz1,hx]
 simp only[isIntT,hz2,grd]
 cases s<;>simp[slV]at hs
 rename_i a l k
 cases a with
 |none=>obtain⟨rfl,rfl⟩:=hs0 l k rfl;simp
 |some a=>
  obtain⟨b,oo,sp⟩:=a
  have:=hs1 b oo sp l k rfl
  cases sp with
  |none=>simp at this
  |some q=>simp
theorem app_nil {base st xt elem n bytes len:Nat} (A:AppT E st xt elem n bytes) {x:Value} {new:List Value} (hx:lenV x=some len) (hl:len≠0) (hb:(len+1)*(bytes+1)≤1099511627776) (hf:firstV h n len x=some new) (hn:new.length=len*n):
 aappend E base h st xt (.slice none 0 0) x=some (fresh h new n len):=by
 obtain⟨e,hxd⟩:=A.xd
 obtain⟨z,hz1,hz2⟩:=A.zero
 unfold aappend
 rw[A.sd,hxd]
 simp only[Option.bind_some,A.size,A.bytes,hz1,hx]
 simp only[isIntT,hz2,grd]
 simp[nbeq,hl,ble_iff.2 hb,hf,hn]
theorem app_full {base st xt elem n bytes len b oo sl:Nat} (A:AppT E st xt elem n bytes) {x:Value} {old new:List Value} (hx:lenV x=some len) (hl:len≠0) (hb:(sl+len+1)*(bytes+1)≤1099511627776) (hf:firstV h n len x=some new) (hn:new.length=len*n)
 (ho:M.readCells h b oo (sl*n)=some old):aappend E base h st xt (.slice (some ⟨b,oo,some n⟩) sl sl) x=some (fresh h (old++new) n (sl+len)):=by
 obtain⟨e,hxd⟩:=A.xd
 obtain⟨z,hz1,hz2⟩:=A.zero
 unfold aappend
 rw[A.sd,hxd]
 simp only[Option.bind_some,A.size,A.bytes,hz1,hx]
 simp only[isIntT,hz2,grd]
 simp[nbeq,hl,ble_iff.2 hb,hf,hn,ho]
theorem app_ext {base st xt elem n bytes len b sl cap f thr:Nat} (A:AppT E st xt elem n bytes) {x:Value} {old new cs:List Value} (hx:lenV x=some len) (hl:len≠0) (hb:(sl+len+1)*(bytes+1)≤1099511627776) (hf:firstV h n len x=some new) (hn:new.length=len*n)
 (ho:M.readCells h b 0 (sl*n)=some old) (hcap:cap≠sl) (hc:h.cellsOf b=some cs) (hfam:h.fam b=some (f,b,thr)) (hbf:base≤f) (hcl:sl*n=cs.length) (hone:new.all oneC=true):
 aappend E base h st xt (.slice (some ⟨b,0,some n⟩) sl cap) x=some (.slice (some ⟨h.size,0,some n⟩) (sl+len) (sl+len+1),extH h f thr (old++new)):=by
 obtain⟨e,hxd⟩:=A.xd
 obtain⟨z,hz1,hz2⟩:=A.zero
 unfold aappend
 rw[A.sd,hxd]
 simp only[Option.bind_some,A.size,A.bytes,hz1,hx]
 simp only[isIntT,hz2,grd]
 have h1:new.all oneC=true:=hone
 simp[nbeq,hl,ble_iff.2 hb,hf,hn,hcap,hc,hfam,ble_iff.2 hbf,hcl]
 rw[←hcl,ho,h1]
 rfl
theorem Mem.flag {n:Nat} {xs:List (List TV)} {o1:Ob} (H:Mem X ρ F ((c,.arr n true xs)::o1) (c+1) h) (w:Bool):∃F',Mem X ρ F' ((c,.arr n w xs)::o1) (c+1) h∧(∀t v,VR (c+1) ρ F h t v→VR (c+1) ρ F' h t v)∧∀b,F b→F' b:=by
 cases w with
 |true=>exact⟨F,H,fun _ _ h=>h,fun _ h=>h⟩
 |false=>
  obtain⟨F',h1,h2,h3,_⟩:=H.share c
  refine⟨F',h1.less fun m y hl=>?_,h2,h3⟩
  have:shareO ((c,TO.arr n true xs)::o1) c=upd1 ((c,TO.arr n true xs)::o1) c (.arr n false xs):=by
   unfold shareO;rw[look_cons,if_pos rfl]
  rw[this,look_upd1]
  rw[look_cons]at hl
  by_cases e:m=c
  ·subst e
   rw[if_pos rfl,look_cons,if_pos rfl]
   rw[if_pos rfl]at hl
   simpa using hl
  ·rw[if_neg e,look_cons,if_neg (fun e2=>e e2.symm)]
   rwa [if_neg (fun e2=>e e2.symm)]at hl
theorem raw_drop (H:Mem X ρ F o c h) {m:Nat} {y:TO} {l:Option Loc}:∀n yn,look o n=some yn→n∉[m]→(∃y',look ((c,y)::drop1 o m) n=some y')∧updG (updG ρ m none) c l n=ρ n:=by
 intro n yn hn hne
 have hne':n≠m:=by simpa using hne
 have:=H.lt hn
 exact⟨⟨yn,by rw[look_cons,if_neg (by omega),look_drop1,if_neg hne'];exact hn⟩,by rw[updG_ne _ _ (by omega),updG_ne _ _ hne']⟩
theorem app_ap {xs:List (List TV)}:∀{op:List (Nat×List TV)} {es:List (List TV)},(∀p∈op,p.1<es.length)→apOp (es++xs) op=apOp es op++xs∧(apOp es op).length=es.length
 |[],_,_=>⟨rfl,rfl⟩
 |p::l,es,h=>by
  obtain⟨a,b⟩:=app_ap (xs:=xs) (op:=l) (es:=es) fun q hq=>h q (List.mem_cons_of_mem _ hq)
  have:=h p List.mem_cons_self
  exact⟨by rw[apOp,apOp,a,List.set_append_left _ _ (by omega)],by rw[apOp,List.length_set,b]⟩
theorem cons_ap {es xs:List (List TV)} {q:Nat×List TV} {op:List (Nat×List TV)} (h:∀p∈op,p.1<es.length):apOp (es++xs) ((es.length+q.1,q.2)::op)=apOp es op++apOp xs [q]:=by
 obtain⟨a,b⟩:=app_ap (xs:=xs) h
 rw[apOp,a,List.set_append_right _ _ (by omega),b]
 simp[apOp]
theorem VRs.oneC' {l:List TV} {m:List Value} (H:VRs c ρ F h l m) (ho:∀t∈l,okC t=true):m.all M.oneC=true:=okC_all (List.all_eq_true.2 ho) H
theorem app_empty (H:Mem X ρ F o c h) {st xt elem:TypeId} {n bytes:Nat} {xs:List (List TV)} {op:List (Nat×List TV)} {sv xv:Value} {F1:Nat→Prop} {o1:Ob} {ρ1:Gh} {y1 y2:TO} {ns:List Nat} (A:AppT E st xt elem n bytes) (hn0:0<n) (hlen:lenV xv=some xs.length)
 (hcont:xs=[]∨∃new,firstV h n xs.length xv=some new∧(op=[]→ER c ρ F h n xs new)∧new.length=xs.length*n∧(∀e∈xs,e.length=n)∧VRs c ρ F h (apOp xs op).flatten new)
 (fin:∀v h',aappend E X.base h st xt sv xv=some (v,h')→aeff E X.base af p h=some (.val v,h')) (hp:apure E af p=none) (hq:aread E af p=none) (hal:aalloc E af p=none)
 (M1:Mem X ρ1 F1 o1 c h) (k1:∀t v,VR c ρ F h t v→VR c ρ1 F1 h t v) (f1:∀b,F b→F1 b) (w1:∀m y,look o m=some y→m∉ns→(∃y',look o1 m=some y')∧ρ1 m=ρ m)
 (hsv:sv= .slice none 0 0∨∃b oo cs,F b∧h.rd b=some cs∧oo≤cs.length∧sv= .slice (some ⟨b,oo,some n⟩) 0 0) (hbd:(xs.length+1)*(bytes+1)≤1099511627776)
 (hnil:xs=[]→∀(c:Nat) (ρ:Gh) (F:Nat→Prop) (m:Nat),ρ m=some (.nil n)→OR c ρ F h X.base m [] y1)
 (hnew:∀new,(op=[]→ER c ρ1 F1 h n xs new)→new.length=xs.length*n→(∀e∈xs,e.length=n)→VRs c ρ1 F1 h (apOp xs op).flatten new→Mem X (updG ρ1 c (some (.arr h.size n xs.length))) F1 ((c,y1)::o1) (c+1) (h.push (.cells new h.size h.size 0))∧∀t v,VR c ρ1 F1 h t v→VR (c+1) (updG ρ1 c (some (.arr h.size n xs.length))) F1 (h.push (.cells new h.size h.size 0)) t v)
 (fl:∀{ρ1:Gh} {F1:Nat→Prop} {h1:AHeap},Mem X ρ1 F1 ((c,y1)::o1) (c+1) h1→∃F',Mem X ρ1 F' ((c,y2)::o1) (c+1) h1∧(∀t v,VR (c+1) ρ1 F1 h1 t v→VR (c+1) ρ1 F' h1 t v)∧∀b,F1 b→F' b)
 (hK:K (.tk c) ((c,y2)::o1) (c+1) (.eff ns)):Did E X ρ F o c af h p K:=by
 have cs0:∀m y,look o m=some y→m≠c:=fun m y hl=>by have:=H.lt hl;omega
 by_cases hx0:xs.length=0
 ·have hxe:xs=[]:=List.length_eq_zero_iff.1 hx0
  obtain⟨M2,k2⟩:=M1.newNilG (y:=y1) (z:=n) (hnil hxe)
  obtain⟨F3,M3,k3,f3⟩:=fl M2
  have hap:aappend E X.base h st xt sv xv=some (sv,h):=by
   refine app_none A ?_ ?_ ?_ (by rw[hlen,hx0])
   ·rcases hsv with rfl |⟨b,oo,cs,_,_,_,rfl⟩<;>rfl
   ·rintro l k e;rcases hsv with rfl |⟨b,oo,cs,_,_,_,rfl⟩<;>cases e;exact⟨rfl,rfl⟩
   ·rintro b oo sp l k e;rcases hsv with rfl |⟨b,oo,cs,_,_,_,rfl⟩<;>cases e;rfl
  refine Did.eff H hp hq hal (fin _ _ hap) ⟨M3,fun t x hx=>k3 t x (k2 t x (k1 t x hx)),Nat.le_refl _,fun b hb=>f3 b (f1 b hb),fun _ _ _ hr=>hr⟩ ?_ (fun m y hl hm=>⟨?_,?_,fun b _=>⟨rfl,fun _ hr=>hr⟩⟩) hK
  ·refine .tk (by omega) (by rcases hsv with rfl |⟨b,oo,cs,_,_,_,rfl⟩<;>rfl) (fun b z len hx=>?_) (fun z hx=>?_)
   ·rw[updG_self]at hx;cases hx
   ·rw[updG_self]at hx;cases hx
    rcases hsv with rfl |⟨b,oo,cs,q1,q2,q3,rfl⟩
    ·exact .inl rfl
    ·exact .inr ⟨b,oo,cs,f3 _ (f1 _ q1),q2,hn0,q3,rfl⟩
  ·rw[look_cons,if_neg (cs0 m y hl).symm];exact(w1 m y hl hm).1
  ·rw[updG_ne _ _ (cs0 m y hl)];exact(w1 m y hl hm).2
 ·rcases hcont with e|⟨new,hnw,hE,hnl,hez,hV⟩
  ·subst e;simp at hx0
  ·obtain⟨M2,k2⟩:=hnew new (fun e=>(hE e).mono k1) hnl hez (hV.mono' k1)
   obtain⟨F3,M3,k3,f3⟩:=fl M2
   have hap:aappend E X.base h st xt sv xv=some (fresh h new n xs.length):=by
    rcases hsv with rfl |⟨b,oo,cs,_,q2,q3,rfl⟩
    ·exact app_nil A hlen hx0 hbd hnw hnl
    ·have:=app_full (base:=X.base) (sl:=0) (old:=[]) (b:=b) (oo:=oo) A hlen hx0 (by simpa using hbd) hnw hnl (by simp[M.readCells,q2,takeN])
     simpa using this
   refine Did.eff H hp hq hal (fin _ _ hap) ⟨M3,fun t x hx=>k3 t x (k2 t x (k1 t x hx)),by show h.size≤h.size+1;omega,fun b hb=>f3 b (f1 b hb),fun b cs hb hr=>(rd_push H.wf.le _ (H.Flt hb)).trans hr⟩ ?_ (fun m y hl hm=>⟨?_,?_,fun b hb=>?_⟩) hK
   ·refine .tk (by omega) rfl (fun b z len hx=>?_) (fun z hx=>?_)
    ·rw[updG_self]at hx;cases hx;exact⟨_,by omega,rfl⟩
    ·rw[updG_self]at hx;cases hx
   ·rw[look_cons,if_neg (cs0 m y hl).symm];exact(w1 m y hl hm).1
   ·rw[updG_ne _ _ (cs0 m y hl)];exact(w1 m y hl hm).2
   ·have:=H.atB_lt hl hb
    exact⟨by rw[AHeap.get_push,if_neg (by omega)],fun cs hr=>by rw[rd_push H.wf.le _ this];exact hr⟩
theorem app_tk (H:Mem X ρ F o c h) {st xt elem:TypeId} {z bytes:Nat} {xs:List (List TV)} {xv:Value} {S:Nat→Ft} (K0:MO X ρ F o c h S) {m b f t0 th0 thr len cap:Nat} {w:Bool} {y y2:TO} {Sq:Ft} {cs new:List Value} (A:AppT E st xt elem z bytes) (hlen:lenV xv=some xs.length) (hx0:xs.length≠0)
 (fin:∀v h',aappend E X.base h st xt (.slice (some ⟨b,0,some z⟩) len cap) xv=some (v,h')→aeff E X.base af p h=some (.val v,h')) (hp:apure E af p=none) (hq:aread E af p=none) (hal:aalloc E af p=none)
 (hl:look o m=some y) (hS:S m=(f,w)::Sq) (hb:ρ m=some (.arr b z len)) (hg:h.get b=some (.cells cs f t0 th0)) (hf:h.fam b=some (f,b,thr)) (ht:thr≤b) (hbf:X.base≤f) (_:0<z) (hlc:cs.length=len*z) (hcap:len≤cap)
 (hbd:(len+xs.length+1)*(bytes+1)≤1099511627776) (hnw:firstV h z xs.length xv=some new) (hnl:new.length=xs.length*z) (hone:new.all oneC=true) (hw:w=true∨Sq=[])
 (hor:∀{c':Nat} {ρ':Gh} {F':Nat→Prop} {h':AHeap} {b' f' t1 th1 thr1:Nat} {T:Nat→Prop},(∀t v,VR c ρ F h t v→VR c' ρ' F' h' t v)→(∀b,F b→F' b)→(∀b cs,F b→h.rd b=some cs→h'.rd b=some cs)→(∀b,b<h.size→¬T (hd h b)→h'.get b=h.get b)→(∀x∈hds Sq,¬T x)→
  ρ' c=some (.arr b' z (len+xs.length))→h'.get b'=some (.cells (cs++new) f' t1 th1)→h'.fam b'=some (f',b',thr1)→thr1≤b'→X.base≤f'→(w=false→F' b')→OR c' ρ' F' h' X.base c ((f',w)::Sq) y2)
 (hK:K (.tk c) ((c,y2)::drop1 o m) (c+1) (.eff [m])):Did E X ρ F o c af h p K:=by
 have hrd:=rd_of hf ht (cellsOf_get hg)
 have hro:M.readCells h b 0 (len*z)=some cs:=by
  simp only[M.readCells,hrd,Option.bind_some,List.drop_zero,takeN_some]
  rw[←hlc];simp
 obtain⟨c0,hroot⟩:=fam_root hf
 simp only at hroot
 have hfS:f∈hds (S m):=by rw[hS];exact List.mem_cons_self
 have hnod:=K0.nod m _ hl
 rw[hS]at hnod
 obtain⟨n1,n2⟩:=List.nodup_cons.1 hnod
 by_cases hcl:cap=len
 ·subst hcl
  have hap:=app_full (base:=X.base) A hlen hx0 hbd hnw hnl hro
  have hgN:(h.push (.cells (cs++new) h.size h.size 0)).get h.size=some (.cells (cs++new) h.size h.size 0):=by rw[AHeap.get_push,if_pos rfl]
  have frz:∀b cs',F b→h.rd b=some cs'→(h.push (.cells (cs++new) h.size h.size 0)).rd b=some cs':=fun b cs' hb hr=>(rd_push H.wf.le _ (H.Flt hb)).trans hr
  have sameN:∀b,b<h.size→(h.push (.cells (cs++new) h.size h.size 0)).get b=h.get b:=fun b hb=>by rw[AHeap.get_push,if_neg (by omega)]
  have fin2:∀F3,(∀b,F b→F3 b)→Mem X (updG (updG ρ m none) c (some (.arr h.size z (cap+xs.length)))) F3 ((c,y2)::drop1 o m) (c+1) (h.push (.cells (cs++new) h.size h.size 0))→(∀t x,VR c ρ F h t x→VR (c+1) (updG (updG ρ m none) c (some (.arr h.size z (cap+xs.length)))) F3 (h.push (.cells (cs++new) h.size h.size 0)) t x)→Did E X ρ F o c af h p K:=by
   intro F3 f3 M3 k3
   refine Did.eff H hp hq hal (fin _ _ hap) ⟨M3,k3,by show h.size≤h.size+1;omega,f3,frz⟩ ?_ (fun n y hln hne=>?_) hK
   ·refine .tk (by omega) rfl (fun b' z' len hx=>?_) (fun z hx=>?_)
    ·rw[updG_self]at hx;cases hx
     exact⟨cap+xs.length+1,by omega,by simp⟩
    ·rw[updG_self]at hx;cases hx
   ·obtain⟨q1,q2⟩:=raw_drop H (y:=y2) (l:=some (.arr h.size z (cap+xs.length))) n y hln hne
    have hlt:=fun b' hb'=>H.atB_lt (b:=b') hln hb'
    exact⟨q1,q2,fun b' hb'=>⟨sameN b' (hlt b' hb'),fun cs hr=>(rd_push H.wf.le _ (hlt b' hb')).trans hr⟩⟩
  have hwfN:Wf (h.push (.cells (cs++new) h.size h.size 0)):=H.wf.push fun cs f tip thr e=>by cases e;exact Nat.le_refl _
  obtain⟨M3,k3⟩:=H.moveG K0 (S0:=(h.size,w)::Sq) (y':=y2) (q:=.arr h.size z (cap+xs.length)) (h':=h.push (.cells (cs++new) h.size h.size 0)) hl hb (by rw[AHeap.size_push];omega) hwfN sameN frz (fun p hp=>by
   rcases List.mem_cons.1 hp with rfl |hp
   ·exact .inr rfl
   ·rw[hS];exact .inl (List.mem_cons_of_mem _ hp)) (List.nodup_cons.2 ⟨fun hx=>by
    have:=(K0.mine m _ h.size hl (by rw[hS];exact List.mem_cons_of_mem _ hx)).2.1
    omega,n2⟩) (fun x hx=>by
    rw[AHeap.size_push]
    rcases List.mem_cons.1 hx with rfl |hx
    ·simp
    ·have:=(K0.mine m _ x hl (by rw[hS];exact List.mem_cons_of_mem _ hx)).2.1
     omega) (!w) (fun hw'=>by
    have hwf:w=false:=by simpa using hw'
    subst hwf
    have hSq:Sq=[]:=by rcases hw with h|h;cases h;exact h
    subst hSq
    exact⟨by rw[rd_of (fam_of hgN hgN) (Nat.zero_le _) (cellsOf_get hgN)];rfl,hd_get hgN,by simp⟩) (by simp) fun hm=>
   hor (T:=fun _=>False) hm (fun _ h=>.inl h) frz (fun b hb _=>sameN b hb) (fun _ _ hf=>hf.elim) (updG_self _ _ _) hgN (fam_of hgN hgN) (Nat.zero_le _) H.bsz (fun h=>.inr ⟨by simp[h],rfl⟩)
  exact fin2 _ (fun _ h=>.inl h) M3 k3
 ·have hap:=app_ext (base:=X.base) (cap:=cap) A hlen hx0 hbd hnw hnl hro hcl (cellsOf_get hg) hf hbf hlc.symm hone
  obtain⟨M2,k2⟩:=H.growG K0 (len':=len+xs.length) (cs':=cs++new) (y':=y2) hl hS hb hg hf ht fun hm same frz hgc hfc=>
   hor (T:=fun x=>x=f) hm (fun _ h=>.inl h) frz same (fun x hx e=>n1 (by subst e;exact hx)) (updG_self _ _ _) hgc hfc (by have:=H.wf.lt hg;omega) hbf (fun hw=>.inr ⟨hw,rfl⟩)
  refine Did.eff H hp hq hal (fin _ _ hap) ⟨M2,k2,by rw[ext_size];omega,fun _ h=>.inl h,fun _ _ _ hr=>ext_rd H.wf hroot hr⟩ ?_ (fun n y hln hne=>?_) hK
  ·refine .tk (by omega) rfl (fun b' z' len hx=>?_) (fun z hx=>?_)
   ·rw[updG_self]at hx;cases hx
    exact⟨_,by omega,rfl⟩
   ·rw[updG_self]at hx;cases hx
  ·obtain⟨q1,q2⟩:=raw_drop H (y:=y2) (l:=some (.arr h.size z (len+xs.length))) n y hln hne
   have hne':n≠m:=by simpa using hne
   refine⟨q1,q2,fun b' hb'=>?_⟩
   obtain⟨hlt,hh⟩:=H.atB_hd K0 hln hb'
   refine⟨?_,fun cs hr=>ext_rd H.wf hroot hr⟩
   rw[ext_get hroot,if_neg (by omega),if_neg]
   intro e;subst e
   rw[hd_get hroot]at hh
   exact hne' (K0.heads n m _ _ _ hln hl hh hfS)
theorem wappend_ok (L:EnvLe T E) (H:Mem X ρ F o c h) {st xt:TypeId} {s x:TV} {sv xv:Value} (hw:wappend T st xt s x o c K) (hs:VR c ρ F h s sv) (hx:VR c ρ F h x xv) (hp:apure E af p=none) (hq:aread E af p=none) (hal:aalloc E af p=none)
 (he:aeff E X.base af p h=cappend E X.base st xt sv xv h):Did E X ρ F o c af h p K:=by
 have fin:∀v h',aappend E X.base h st xt sv xv=some (v,h')→aeff E X.base af p h=some (.val v,h'):=fun v h' hh=>by rw[he];unfold cappend;rw[hh];rfl
 have w0:∀m y,look o m=some y→m∉([]:List Nat)→(∃y',look o m=some y')∧ρ m=ρ m:=fun m y hl _=>⟨⟨y,hl⟩,rfl⟩
 -- a slice without elements
 have emp:∀{z n:Nat},z=n∨z=0→VR c ρ F h (.sl z [] true) sv→sv= .slice none 0 0∨∃b oo cs,F b∧h.rd b=some cs∧oo≤cs.length∧sv= .slice (some ⟨b,oo,some n⟩) 0 0:=by
  intro z n hz hs
  cases hs with
  |nil=>exact .inl rfl
  |sl q1 q2 q3 q4 q5 q6 q7 q8 q9 q10=>
   have hzn:z=n:=by omega
   subst hzn
   simp at q4
   subst q4
   rw[q6 rfl]
   exact .inr ⟨_,_,_,q1,q2,by omega,rfl⟩
 have flq:∀{y:TO} {o1:Ob} {ρ1:Gh} {F1:Nat→Prop} {h1:AHeap},Mem X ρ1 F1 ((c,y)::o1) (c+1) h1→∃F',Mem X ρ1 F' ((c,y)::o1) (c+1) h1∧(∀t v,VR (c+1) ρ1 F1 h1 t v→VR (c+1) ρ1 F' h1 t v)∧∀b,F1 b→F' b:=
  fun {y o1 ρ1 F1 h1} M=>⟨F1,M,fun _ _ h=>h,fun _ h=>h⟩
 have closed:∀{e:List TV},(∀t∈e,fz t=true)→∀t∈e,clT t=true:=fun {e} he t ht=>by
  have:=he t ht
  unfold clT;split<;>first|rfl |exact this
 unfold wappend at hw
 split at hw
 ·rename_i elem xelem hsd hxd
  split at hw
  ·rename_i n bytes z0 zx xs hn hby hz0 hes
   split at hw
   ·rename_i hc
    simp only[Bool.and_eq_true,beq_iff,blt_iff,Bool.or_eq_true]at hc
    obtain⟨⟨⟨hz0n,hn0⟩,hzx⟩,hby0⟩:=hc
    have size:∀{k:Nat},k<1048576→(k+1)*(bytes+1)≤1099511627776:=fun {k} hk=>size_le hk hby0
    have A:AppT E st xt elem n bytes:=⟨L.desc _ _ hsd,⟨_,L.desc _ _ hxd⟩,L.size _ _ hn,L.bytes _ _ hby,_,(L.zero _ _ hz0).1,hz0n⟩
    obtain⟨hlen,_,hxf,hcont⟩:=content_rel H hes (hzx.imp id fun h=>⟨h,rfl⟩) (by simp) hx
    have newA:∀{ρ1:Gh} {F1:Nat→Prop} {o1:Ob},Mem X ρ1 F1 o1 c h→∀new,(([]:List (Nat×List TV))=[]→ER c ρ1 F1 h n xs new)→new.length=xs.length*n→(∀e∈xs,e.length=n)→VRs c ρ1 F1 h (apOp xs []).flatten new→Mem X (updG ρ1 c (some (.arr h.size n xs.length))) F1 ((c,.arr n true xs)::o1) (c+1) (h.push (.cells new h.size h.size 0))∧∀t v,VR c ρ1 F1 h t v→VR (c+1) (updG ρ1 c (some (.arr h.size n xs.length))) F1 (h.push (.cells new h.size h.size 0)) t v:=
     fun M1 new hE _ _ _=>M1.newArr (hE rfl) hn0
    split at hw
    ·rename_i z
     split at hw
     ·rename_i hz
      simp only[Bool.or_eq_true,beq_iff]at hz
      obtain⟨hbd,hK⟩:=hw
      exact app_empty H A hn0 hlen hcont fin hp hq hal H (fun _ _ h=>h) (fun _ h=>h) w0 (emp hz hs) (size hbd) (fun e c ρ F m hm=>by subst e;exact .nil hm hn0) (newA H) flq hK
     ·exact hw.elim
    ·rename_i m
     split at hw
     ·rename_i z w es hl
      split at hw
      ·rename_i hz
       rw[beq_iff]at hz
       subst hz
       obtain⟨hbd0,hK⟩:=hw
       have hbd:=size hbd0
       obtain⟨S,K0⟩:=H.ex
       have hO:=K0.objs m _ hl
       generalize hS:S m=Sm at hO
       have htk:=hO.tk rfl hs
       cases hO with
       |nil hb hz'=>
        rcases htk with⟨_,_,hsv⟩|⟨b,cap,h1,_⟩
        ·obtain⟨M1,k1⟩:=H.gone hl rfl
         refine app_empty H (ns:=[m]) (y1:=.arr z true xs) (y2:=.arr z w xs) A hn0 hlen hcont fin hp hq hal M1 k1 (fun _ h=>h) (fun n y hln hne=>?_) (hsv.imp id fun⟨b,o',cs,q1,q2,q3,q4,q5⟩=>⟨b,o',cs,q1,q2,q4,q5⟩) (by simpa using hbd) (fun e c ρ F m hm=>by subst e;exact .nil hm hn0) (newA M1) (fun M=>M.flag w) (by simpa using hK)
         have hne':n≠m:=by simpa using hne
         exact⟨⟨y,by rw[look_drop1,if_neg hne'];exact hln⟩,updG_ne _ _ hne'⟩
        ·rw[hb]at h1;cases h1
       |arr hb hg hf ht hbf hz' hlen' hee hfz hc hF=>
        rename_i b f t0 th0 thr cs
        rcases htk with⟨_,h1,_⟩|⟨b',cap,h1,hcap,rfl⟩
        ·rw[hb]at h1;cases h1
        ·rw[hb]at h1;cases h1
         by_cases hx0:xs.length=0
         ·have hxe:xs=[]:=List.length_eq_zero_iff.1 hx0
          subst hxe
          obtain⟨M2,k2⟩:=H.rename hl hb
          have hap:aappend E X.base h st xt (.slice (some ⟨b,0,some z⟩) es.length cap) xv=some (.slice (some ⟨b,0,some z⟩) es.length cap,h):=
           app_none A rfl (by rintro l k e;cases e) (by rintro b oo sp l k e;cases e;rfl) hlen
          rw[List.append_nil]at hK
          refine Did.eff H hp hq hal (fin _ _ hap) ⟨M2,k2,Nat.le_refl _,fun _ h=>h,fun _ _ _ hr=>hr⟩ ?_ (fun n y hln hne=>?_) hK
          ·refine .tk (by omega) rfl (fun b' z' len hx=>?_) (fun z hx=>?_)
           ·rw[updG_self]at hx;cases hx;exact⟨_,hcap,rfl⟩
           ·rw[updG_self]at hx;cases hx
          ·obtain⟨q1,q2⟩:=raw_drop H (y:=.arr z w es) (l:=some (.arr b z es.length)) n y hln hne
           exact⟨q1,q2,fun b' _=>⟨rfl,fun _ hr=>hr⟩⟩
         ·rcases hcont with e|⟨new,hnew,hE,hnl,hez,hV⟩
          ·subst e;simp at hx0
          ·have hEE:ER c ρ F h z (es++xs) (cs++new):=ER.append ⟨hlen',hee,hfz,hc⟩ (hE rfl)
           refine app_tk H K0 (y2:=.arr z w (es++xs)) A hlen hx0 fin hp hq hal hl hS hb hg hf ht hbf hz' hlen' hcap hbd hnew hnl ((hE rfl).oneC hz') (.inr rfl) (fun hm hFF frz same hT hρ' hg' hf' ht' hbf' hF'=>?_) hK
           exact OR.arr' (by rw[List.length_append];exact hρ') hg' hf' ht' hbf' hz' (hEE.mono hm) hF'
      ·exact hw.elim
     ·rename_i z es op0 hl
      split at hw
      ·rename_i hz
       rw[beq_iff]at hz
       subst hz
       obtain⟨hbd0,hK⟩:=hw
       have hbd:=size hbd0
       obtain⟨S,K0⟩:=H.ex
       have hO:=K0.objs m _ hl
       generalize hS:S m=Sm at hO
       have htk:=hO.tk rfl hs
       cases hO with
       |qnil hb hz'=>
        rcases htk with⟨_,_,hsv⟩|⟨b,cap,h1,_⟩
        ·obtain⟨M1,k1⟩:=H.gone hl rfl
         refine app_empty H (ns:=[m]) (y1:=.arq z xs []) (y2:=.arq z xs []) A hn0 hlen hcont fin hp hq hal M1 k1 (fun _ h=>h) (fun n y hln hne=>?_) (hsv.imp id fun⟨b,o',cs,q1,q2,q3,q4,q5⟩=>⟨b,o',cs,q1,q2,q4,q5⟩) (by simpa using hbd) (fun e c ρ F m hm=>by subst e;exact .qnil hm hn0) (fun new hE h1 h2 h3=>?_) flq (by simpa using hK)
         ·have hne':n≠m:=by simpa using hne
          exact⟨⟨y,by rw[look_drop1,if_neg hne'];exact hln⟩,updG_ne _ _ hne'⟩
         ·exact M1.newArq ⟨h1,h2,fun e he=>closed (hxf e he),by simp,CNs.ofVRs h3⟩ hn0
        ·rw[hb]at h1;cases h1
       |arq hb hg hf ht hbf hz' hlen' hee hcl hop hc=>
        rename_i Sq b f t0 th0 thr cs
        rcases htk with⟨_,h1,_⟩|⟨b',cap,h1,hcap,rfl⟩
        ·rw[hb]at h1;cases h1
        ·rw[hb]at h1;cases h1
         by_cases hx0:xs.length=0
         ·have hxe:xs=[]:=List.length_eq_zero_iff.1 hx0
          subst hxe
          obtain⟨M2,k2⟩:=H.rename hl hb
          have hap:aappend E X.base h st xt (.slice (some ⟨b,0,some z⟩) es.length cap) xv=some (.slice (some ⟨b,0,some z⟩) es.length cap,h):=
           app_none A rfl (by rintro l k e;cases e) (by rintro b oo sp l k e;cases e;rfl) hlen
          rw[List.append_nil]at hK
          refine Did.eff H hp hq hal (fin _ _ hap) ⟨M2,k2,Nat.le_refl _,fun _ h=>h,fun _ _ _ hr=>hr⟩ ?_ (fun n y hln hne=>?_) hK
          ·refine .tk (by omega) rfl (fun b' z' len hx=>?_) (fun z hx=>?_)
           ·rw[updG_self]at hx;cases hx;exact⟨_,hcap,rfl⟩
           ·rw[updG_self]at hx;cases hx
          ·obtain⟨q1,q2⟩:=raw_drop H (y:=.arq z es op0) (l:=some (.arr b z es.length)) n y hln hne
           exact⟨q1,q2,fun b' _=>⟨rfl,fun _ hr=>hr⟩⟩
         ·rcases hcont with e|⟨new,hnew,hE,hnl,hez,hV⟩
          ·subst e;simp at hx0
          ·refine app_tk H K0 (y2:=.arq z (es++xs) op0) A hlen hx0 fin hp hq hal hl hS hb hg hf ht hbf hz' hlen' hcap hbd hnew hnl ((hE rfl).oneC hz') (.inl rfl) (fun hm hFF frz same hT hρ' hg' hf' ht' hbf' hF'=>?_) hK
           refine OR.arq' (by rw[List.length_append];exact hρ') hg' hf' ht' hbf' hz' ⟨by simp[hlen',hnl,Nat.add_mul],fun e he=>?_,fun e he=>?_,fun p hp=>⟨by have:=(hop p hp).1;simp;omega,(hop p hp).2⟩,?_⟩
           ·rcases List.mem_append.1 he with h1|h1
            ·exact hee e h1
            ·exact hez e h1
           ·rcases List.mem_append.1 he with h1|h1
            ·exact hcl e h1
            ·exact closed (hxf e h1)
           ·have:=(hc.keep H.wf same hFF frz hm hT).join (CNs.ofVRs (base:=X.base) (hV.mono' hm))
            rw[List.append_nil]at this
            rw[(app_ap fun p hp=>(hop p hp).1).1,List.flatten_append]
            exact this
      ·exact hw.elim
     ·exact hw.elim
    ·exact hw.elim
   ·exact hw.elim
  ·rename_i n bytes z0 zx xs q hn hby hz0 hes
   split at hw
   ·rename_i hc
    simp only[Bool.and_eq_true,beq_iff,blt_iff]at hc
    obtain⟨⟨⟨⟨hz0n,hn0⟩,rfl⟩,hby0⟩,hpl,hokq⟩:=hc
    have size:∀{k:Nat},k<1048576→(k+1)*(bytes+1)≤1099511627776:=fun {k} hk=>size_le hk hby0
    have A:AppT E st xt elem zx bytes:=⟨L.desc _ _ hsd,⟨_,L.desc _ _ hxd⟩,L.size _ _ hn,L.bytes _ _ hby,_,(L.zero _ _ hz0).1,hz0n⟩
    obtain⟨hlen,hop0,hxf,hcont⟩:=content_rel H hes (.inl rfl) (by simpa using hpl) hx
    obtain⟨o1,o2⟩:=hop0 q (by simp)
    have hx0:xs.length≠0:=by omega
    have newQ:∀{ρ1:Gh} {F1:Nat→Prop} {o1:Ob},Mem X ρ1 F1 o1 c h→∀new,([q]=[]→ER c ρ1 F1 h zx xs new)→new.length=xs.length*zx→(∀e∈xs,e.length=zx)→VRs c ρ1 F1 h (apOp xs [q]).flatten new→Mem X (updG ρ1 c (some (.arr h.size zx xs.length))) F1 ((c,.arq zx xs [q])::o1) (c+1) (h.push (.cells new h.size h.size 0))∧∀t v,VR c ρ1 F1 h t v→VR (c+1) (updG ρ1 c (some (.arr h.size zx xs.length))) F1 (h.push (.cells new h.size h.size 0)) t v:=
     fun M1 new _ h1 h2 h3=>M1.newArq ⟨h1,h2,fun e he=>closed (hxf e he),hop0,CNs.ofVRs h3⟩ hn0
    have hones:∀{new:List Value},VRs c ρ F h (apOp xs [q]).flatten new→new.length=xs.length*zx→new.all oneC=true:=by
     intro new hV _
     refine VRs.oneC' hV fun t ht=>?_
     obtain⟨e,h1,h2⟩:=List.mem_flatten.1 ht
     rcases List.mem_or_eq_of_mem_set (show e∈xs.set q.1 q.2 from h1)with h3|rfl
     ·have:=hxf e h3 t h2
      cases t<;>first|rfl |simp[fz]at this
     ·exact List.all_eq_true.1 hokq t h2
    -- to an array that is there
    have main:∀{es:List (List TV)} {op0:List (Nat×List TV)} {Sq:Ft} {S:Nat→Ft} {b f t0 th0 thr m cap:Nat} {cs:List Value} {y:TO},MO X ρ F o c h S→look o m=some y→S m=(f,true)::Sq→ρ m=some (.arr b zx es.length)→h.get b=some (.cells cs f t0 th0)→h.fam b=some (f,b,thr)→thr≤b→X.base≤f→cs.length=es.length*zx→es.length≤cap→sv= .slice (some ⟨b,0,some zx⟩) es.length cap→
     (∀e∈es,e.length=zx)→(∀e∈es,∀t∈e,clT t=true)→(∀p∈op0,p.1<es.length∧p.2.length=zx)→CNs c ρ F h X.base Sq (apOp es op0).flatten cs→es.length+xs.length<1048576→K (.tk c) ((c,.arq zx (es++xs) ((es.length+q.1,q.2)::op0))::drop1 o m) (c+1) (.eff [m])→Did E X ρ F o c af h p K:=by
     intro es op0 Sq S b f t0 th0 thr m cap cs y K0 hl hS hb hg hf ht hbf hlen' hcap hsv hee hcl hop hc hbd hK
     subst hsv
     rcases hcont with e|⟨new,hnew,_,hnl,hez,hV⟩
     ·subst e;simp at hx0
     ·refine app_tk H K0 (y2:=.arq zx (es++xs) ((es.length+q.1,q.2)::op0)) A hlen hx0 fin hp hq hal hl hS hb hg hf ht hbf hn0 hlen' hcap (size hbd) hnew hnl (hones hV hnl) (.inl rfl) (fun hm hFF frz same hT hρ' hg' hf' ht' hbf' hF'=>?_) hK
      refine OR.arq' (by rw[List.length_append];exact hρ') hg' hf' ht' hbf' hn0 ⟨by simp[hlen',hnl,Nat.add_mul],fun e he=>?_,fun e he=>?_,fun r hr=>?_,?_⟩
      ·rcases List.mem_append.1 he with h1|h1
       ·exact hee e h1
       ·exact hez e h1
      ·rcases List.mem_append.1 he with h1|h1
       ·exact hcl e h1
       ·exact closed (hxf e h1)
      ·rcases List.mem_cons.1 hr with rfl |hr
       ·exact⟨by simp;omega,o2⟩
       ·have:=hop r hr
        exact⟨by simp;omega,this.2⟩
      ·have:=(hc.keep H.wf same hFF frz hm hT).join (CNs.ofVRs (base:=X.base) (hV.mono' hm))
       rw[List.append_nil]at this
       rw[cons_ap fun p hp=>(hop p hp).1,List.flatten_append]
       exact this
    split at hw
    ·rename_i z
     split at hw
     ·rename_i hz
      simp only[Bool.or_eq_true,beq_iff]at hz
      obtain⟨hbd,hK⟩:=hw
      exact app_empty H A hn0 hlen hcont fin hp hq hal H (fun _ _ h=>h) (fun _ h=>h) w0 (emp hz hs) (size hbd) (fun e=>by subst e;simp at hx0) (newQ H) flq hK
     ·exact hw.elim
    ·rename_i m
     have nilcase:∀{y:TO},look o m=some y→arrO y=true→lenO y=0→zOf y=zx→(sv= .slice none 0 0∨∃b o cs,F b∧h.rd b=some cs∧0<zOf y∧o≤cs.length∧sv= .slice (some ⟨b,o,some (zOf y)⟩) 0 0)→xs.length<1048576→K (.tk c) ((c,.arq zx xs [q])::drop1 o m) (c+1) (.eff [m])→Did E X ρ F o c af h p K:=by
      intro y hl hy h0 hz hsv hbd hK
      obtain⟨M1,k1⟩:=H.gone hl hy
      refine app_empty H (ns:=[m]) (y1:=.arq zx xs [q]) (y2:=.arq zx xs [q]) A hn0 hlen hcont fin hp hq hal M1 k1 (fun _ h=>h) (fun n y hln hne=>?_) (hsv.imp id fun⟨b,o',cs,q1,q2,q3,q4,q5⟩=>⟨b,o',cs,q1,q2,q4,by rw[←hz];exact q5⟩) (size hbd) (fun e=>by subst e;simp at hx0) (newQ M1) flq hK
      have hne':n≠m:=by simpa using hne
      exact⟨⟨y,by rw[look_drop1,if_neg hne'];exact hln⟩,updG_ne _ _ hne'⟩
     have shift0:shiftOp 0 [q]=[q]:=by simp[shiftOp]
     split at hw
     ·rename_i z es hl
      split at hw
      ·rename_i hz
       rw[beq_iff]at hz
       subst hz
       obtain⟨hbd,hK⟩:=hw
       obtain⟨S,K0⟩:=H.ex
       have hO:=K0.objs m _ hl
       generalize hS:S m=Sm at hO
       have htk:=hO.tk rfl hs
       cases hO with
       |nil hb hz'=>
        rcases htk with⟨h0,_,hsv⟩|⟨b,cap,h1,_⟩
        ·exact nilcase hl rfl h0 rfl hsv (by simpa using hbd) (by simpa[shift0]using hK)
        ·rw[hb]at h1;cases h1
       |arr hb hg hf ht hbf hz' hlen' hee hfz hc hF=>
        rcases htk with⟨_,h1,_⟩|⟨b',cap,h1,hcap,hsv⟩
        ·rw[hb]at h1;cases h1
        ·rw[hb]at h1;cases h1
         exact main (op0:=[]) K0 hl hS hb hg hf ht hbf hlen' hcap hsv hee (fun e he=>closed (hfz e he)) (by simp) (CNs.ofVRs (VRs_flatten hlen' hee hc)) hbd hK
      ·exact hw.elim
     ·rename_i z es op0 hl
      split at hw
      ·rename_i hz
       rw[beq_iff]at hz
       subst hz
       obtain⟨hbd,hK⟩:=hw
       obtain⟨S,K0⟩:=H.ex
       have hO:=K0.objs m _ hl
       generalize hS:S m=Sm at hO
       have htk:=hO.tk rfl hs
       cases hO with
       |qnil hb hz'=>
        rcases htk with⟨h0,_,hsv⟩|⟨b,cap,h1,_⟩
        ·exact nilcase hl rfl h0 rfl hsv (by simpa using hbd) (by simpa[shift0]using hK)
        ·rw[hb]at h1;cases h1
       |arq hb hg hf ht hbf hz' hlen' hee hcl hop hc=>
        rcases htk with⟨_,h1,_⟩|⟨b',cap,h1,hcap,hsv⟩
        ·rw[hb]at h1;cases h1
        ·rw[hb]at h1;cases h1
         exact main K0 hl hS hb hg hf ht hbf hlen' hcap hsv hee hcl hop hc hbd hK
      ·exact hw.elim
     ·exact hw.elim
    ·exact hw.elim
   ·exact hw.elim
  ·exact hw.elim
 ·exact hw.elim
end
end Go.M
namespace Go.M
open Go
section
variable {T E:Env} {X:Cx} {ρ:Gh} {F:Nat→Prop} {o:Ob} {c:Nat} {af:AF} {f:Fr} {h:AHeap} {p:Oper} {K:OK}
theorem look_dropIds':∀{ids:List (Option Nat)} {o:Ob} {n:Nat},(∀k:Nat,ids[k]? ≠some (some n))→look (dropIds ids o) n=look o n
 |[],o,n,_=>rfl
 |none::l,o,n,h=>look_dropIds' (ids:=l) fun k=>by simpa using h (k+1)
 |some m::l,o,n,h=>by
  simp only[dropIds]
  rw[look_dropIds' (ids:=l) fun k=>by simpa using h (k+1),look_drop1,if_neg]
  intro e;subst e
  exact h 0 rfl
theorem not_names:∀{ids:List (Option Nat)} {n:Nat},n∉namesOf ids→∀k:Nat,ids[k]? ≠some (some n)
 |[],n,_,k=>by simp
 |none::l,n,h,k=>by
  cases k with
  |zero=>simp
  |succ k=>simpa using not_names (ids:=l) h k
 |some m::l,n,h,k=>by
  simp only[namesOf,List.mem_cons,not_or]at h
  cases k with
  |zero=>simp;exact fun e=>h.1 e.symm
  |succ k=>simpa using not_names (ids:=l) h.2 k
theorem shareAll_wk:∀(sh:List Nat) (o:Ob) (n:Nat) (y:TO),look o n=some y→∃y',look (M.shareAll sh o) n=some y'∧weak y y'
 |[],o,n,y,h=>⟨y,h,weak.refl _⟩
 |m::sh,o,n,y,h=>by
  obtain⟨y1,h1,h2⟩:=weak_shareO o m n y h
  obtain⟨y2,h3,h4⟩:=shareAll_wk sh _ n y1 h1
  exact⟨y2,h3,h2.trans h4⟩
theorem shareAll_ok (H:Mem X ρ F o c h) (sh:List Nat):∃F',ShOk X ρ c h F o F' (M.shareAll sh o):=by
 obtain⟨F',h1,h2,h3⟩:=H.shareAll sh
 exact⟨F',h1,h2,h3,shareAll_wk sh o⟩
theorem look_dropU':∀{U:List Nat} {o:Ob} {n:Nat},n∉U→look (dropU U o) n=look o n
 |[],o,n,_=>rfl
 |m::l,o,n,h=>by
  simp only[List.mem_cons,not_or]at h
  simp only[dropU]
  rw[look_dropU' h.2,look_drop1,if_neg h.1]
theorem wcall_ok (NX:TabX E X) (H:Mem X ρ F o c h) {g:FuncId} {args:List TV} {vargs:List Value} {st:Bool} (hst:st=true→StillF E g) (hw:wcall st (VC E) g args o c K) (ha:VRs c ρ F h args vargs) (hp:apure E af p=none) (hq:aread E af p=none) (hal:aalloc E af p=none)
 (he:aeff E X.base af p h=some (.enter g vargs,h)):Did E X ρ F o c af h p K:=by
 obtain⟨sh,ids,U,args0,o0,R,hvc,⟨hargs,hO,hi⟩,hK⟩:=hw
 simp only[Bool.and_eq_true]at hi
 obtain⟨hi,hU⟩:=hi
 obtain⟨F1,Sh⟩:=shareAll_ok H sh
 have H1:=Sh.mem
 obtain⟨S,K1⟩:=H1.ex
 obtain⟨S1,Ns,D⟩:=hO.told H1 K1 hi hU
 obtain⟨hand,handO⟩:=H1.hand K1 D
 have hv0:=leVs_rel (zf:=zfO o0) H1 _ _ _ hargs (ha.mono' Sh.keep)
 obtain⟨n0,v,h',ρ',F',r,o',c',hrun,hR,MC,hr⟩:=hvc X.base _ F1 h S1 vargs (NX.now H1) hand handO hv0
 obtain⟨MM,k1,k2,k3⟩:=H1.merge K1 hi D MC
 have hsz:h.size≤h'.size:=MC.evo.size
 have hRaw:Raw ρ o h (mrgG ids c ρ ρ') (renO (back ids c) o'++dropU U (dropIds ids (shareAll sh o))) h' (namesOf ids++U):=fun n y hl hne=>by
  simp only[List.mem_append,not_or]at hne
  have hn:=not_names hne.1
  have hnc:=H.lt hl
  obtain⟨y1,q1,q2⟩:=Sh.wk n y hl
  have hnt:=k3 n y1 q1 hn hne.2
  refine⟨⟨y1,?_⟩,mrg_old hn hnc,fun b hb=>?_⟩
  ·rw[look_append]
   split
   ·rename_i y3 h3
    obtain⟨k,y4,e1,_,_⟩:=look_renO (fun k k'=>back_inj hi) h3
    exfalso
    unfold back at e1
    split at e1
    ·rename_i m hm;subst e1;exact hn k hm
    ·omega
   ·rw[look_dropU' hne.2,look_dropIds' hn];exact q1
  ·obtain⟨hbl,hh⟩:=H1.atB_hd K1 q1 hb
   have hhb:¬heads0 S1 o0 (hd h b):=hnt _ hh
   have hg:=MC.evo.keep b hbl hhb
   refine⟨hg,fun cs hr=>?_⟩
   obtain⟨r,a1,a2,a3⟩:=rd_some hr
   obtain⟨f1,t1,th1,hgb⟩:=cellsOf_some a3
   obtain⟨cr,hr1⟩:=fam_root a1
   obtain⟨cs1,p1,p2,hg1⟩:=fam_cells a1
   rw[hgb]at hg1;cases hg1
   have hgr:=MC.evo.keep r.1 (H.wf.lt hr1) (by
    have:hd h r.1=hd h b:=by rw[hd_get hr1,hd_get hgb]
    show¬heads0 S1 o0 (hd h r.1)
    rw[this];exact hhb)
   exact rd_of (fam_of (hg.trans hgb) (hgr.trans hr1)) a2 (cellsOf_get (hg.trans hgb))
 refine⟨n0,⟨v,h',.eff h h'⟩,r.ren (back ids c),_,_,_,F',labC st o0 (namesOf ids++U),fun n hn=>?_,hK r o' c' hR,⟨MM,fun t x hx=>k1 t x (Sh.keep t x hx),hsz,fun b hb=>MC.F0 b (Sh.FF b hb),fun b cs hb hrd=>(MC.evo.frz b (Sh.FF b hb)).trans hrd⟩,k2 _ _ hr,?_⟩
 ·unfold runOp
  rw[hp,hq,hal,he]
  simp only
  rw[acall_le hn _ _ _ _ hrun]
  rfl
 ·unfold labC
  split
  ·rename_i hs
   exact .effI hRaw (hst rfl _ _ _ _ _ _ hrun)
  ·split
   ·rename_i hns
    rw[hns]at hRaw
    exact .effG hRaw fun b hb=>MC.evo.keep b hb fun⟨k,y,q,_⟩=>by simp[look]at q
   ·exact .eff hRaw
end
end Go.M
namespace Go.M
open Go
section
variable {T E:Env} {X:Cx} {ρ:Gh} {F:Nat→Prop} {o:Ob} {c:Nat} {af:AF} {f:Fr} {h:AHeap} {p:Oper} {K:OK}
theorem PRes.did {canon:Option Value} (H:Mem X ρ F o c h) (R:PRes c ρ F h o canon K) (hp:apure E af p=canon):Did E X ρ F o c af h p K:=by
 obtain⟨v,x,h1,h2,h3⟩:=R
 exact Did.pure H (hp.trans h1) h2 h3
theorem wlen_ok (L:EnvLe T E) (H:Mem X ρ F o c h) {t:TypeId} {x:TV} {xv:Value} (hw:wlen T t x o c K) (hx:VR c ρ F h x xv)
 (hp:∀d,E.desc t=some d→apure E af p=(match(generalizing:=false) d,xv with
  | .string,.string s=>some (goInt s.size)
  | .array n _,_=>some (goInt n)
  | .slice _,.slice _ n _=>some (goInt n)
  | .map _ _,.map none=>some (goInt 0)
  |_,_=>none))
 (hq:∀k e r,E.desc t=some (.map k e)→xv= .map (some r)→aread E af p=some (.len r)):Did E X ρ F o c af h p K:=by
 unfold wlen at hw
 split at hw
 ·rename_i hd
  split at hw
  ·have:=hx.inv_s.1;subst this
   exact Did.pure H (hp _ (L.desc _ _ hd)) (.s rfl) hw
  ·exact hw.elim
 ·rename_i n e hd
  exact Did.pure H ((hp _ (L.desc _ _ hd)).trans (by cases xv<;>rfl)) (.s rfl) hw
 ·rename_i e hd
  have arr:∀{m:Nat} {y:TO},look o m=some y→arrO y=true→VR c ρ F h (.tk m) xv→K (.s (goInt (lenO y))) o c .pure→Did E X ρ F o c af h p K:=by
   intro m y hl hy hx hw
   obtain⟨Sm,hO⟩:=H.objs hl
   have:∃a k,xv= .slice a (lenO y) k:=by
    rcases hO.tk hy hx with⟨h0,_,rfl |⟨b,o',cs,_,_,_,_,rfl⟩⟩|⟨b,cap,_,_,rfl⟩
    ·rw[h0];exact⟨none,0,rfl⟩
    ·rw[h0];exact⟨_,0,rfl⟩
    ·exact⟨_,_,rfl⟩
   obtain⟨a,k,rfl⟩:=this
   exact Did.pure H (hp _ (L.desc _ _ hd)) (.s rfl) hw
  split at hw
  ·cases hx with
   |bg hb=>exact Did.pure H (hp _ (L.desc _ _ hd)) (.s rfl) hw
  ·rename_i m
   split at hw
   ·rename_i hl;exact arr hl rfl hx hw
   ·rename_i hl;exact arr hl rfl hx hw
   ·exact hw.elim
  ·cases hx with
   |nil h1=>subst h1;exact Did.pure H (hp _ (L.desc _ _ hd)) (.s rfl) hw
   |sl q1 q2 q3 q4=>subst q4;exact Did.pure H (hp _ (L.desc _ _ hd)) (.s rfl) hw
  ·exact hw.elim
 ·rename_i k e hd
  split at hw
  ·have:=hx.inv_s.1;subst this
   exact Did.pure H (hp _ (L.desc _ _ hd)) (.s rfl) hw
  ·rename_i n
   split at hw
   ·rename_i kn es hl
    obtain⟨Sm,hO⟩:=H.objs hl
    cases hO with
    |map hb hg hlen hc hst=>
     rename_i b clock ev
     cases hx with
     |mp hb'=>
      rw[hb]at hb';cases hb'
      have hma:mapAt h b=some (ev,clock):=by unfold mapAt;rw[hg]
      have hE:ERs c ρ F h kn es ev:=⟨hlen,hc⟩
      refine RRes.did (q:=.len b) (RRes.same H (by simp[RQ.run,hma];rfl) (.s rfl) ?_ (.rdO (.refl _) rfl hl (.inl hb) ⟨_,hma,hE.refl⟩)) (hp _ (L.desc _ _ hd)) (hq _ _ _ (L.desc _ _ hd) rfl)
      rw[←hlen];exact hw
   ·rename_i kn es hl
    obtain⟨Sm,hO⟩:=H.objs hl
    cases hO with
    |maq hb hg hcl hc hst=>
     rename_i Sq b clock ev
     cases hx with
     |mp hb'=>
      rw[hb]at hb';cases hb'
      have hma:mapAt h b=some (ev,clock):=by unfold mapAt;rw[hg]
      have hE:ENs c ρ F h X.base kn Sq es ev:=hc
      have hlen:es.length=ev.length:=by
       have key:∀{es:List (Value×TV)} {ev:List MapEntry} {S:Ft},ENs c ρ F h X.base kn S es ev→es.length=ev.length:=by
        intro es ev S hE
        induction hE with
        |nil=>rfl
        |cons _ _ _ _ _ ih=>simp[ih]
       exact key hE
      refine RRes.did (q:=.len b) (RRes.same H (by simp[RQ.run,hma];rfl) (.s rfl) ?_ (.rdO (.refl _) rfl hl (.inl hb) ⟨_,hma,hE.refl fun e he t ht=>.inr (hcl e he t ht)⟩)) (hp _ (L.desc _ _ hd)) (hq _ _ _ (L.desc _ _ hd) rfl)
      rw[←hlen];exact hw
   ·exact hw.elim
  ·exact hw.elim
 ·exact hw.elim
theorem ev1 (L:EnvLe T E) (N:TabOk T F h) (S:vSlots c ρ F h f af) {x:Operand} {l:List Operand} (hev:l.all (evOk T)=true) (hm:x∈l):∃v,ev E af x=some v∧VR c ρ F h (evT T f x) v:=vev_rel L N S (List.all_eq_true.1 hev x hm)
theorem evO (L:EnvLe T E) (N:TabOk T F h) (S:vSlots c ρ F h f af) {x:Option Operand} {l:List Operand} (hev:l.all (evOk T)=true) (hm:∀y,x=some y→y∈l):∃v,evOpt E af x=some v∧OptR c ρ F h (evTO T f x) v:=by
 cases x with
 |none=>exact⟨none,rfl,.inl ⟨rfl,rfl⟩⟩
 |some y=>
  obtain⟨v,h1,h2⟩:=vev_rel (E:=E) L N S (List.all_eq_true.1 hev y (hm y rfl))
  exact⟨some v,by simp[evOpt,h1],.inr ⟨_,_,rfl,rfl,h2⟩⟩
theorem wbuiltin_ok (L:EnvLe T E) (H:Mem X ρ F o c h) {b:Builtin} {qargs:Array Operand} {argTypes:Array TypeId} {args:List TV} {vs:List Value} {dst:Option Tmp} {ty:TypeId} {pos:String} {after:Array Edge} {guard:Option (Nat×Bool)}
 (hw:wbuiltin T b argTypes.toList args o c K) (hr:VRs c ρ F h args vs) (he:evs E af qargs.toList=some vs):Did E X ρ F o c af h ⟨dst,.call ⟨.builtin b,qargs,argTypes⟩,ty,pos,after,guard⟩ K:=by
 have hp:apure E af ⟨dst,.call ⟨.builtin b,qargs,argTypes⟩,ty,pos,after,guard⟩=abuiltP E b argTypes.toList vs:=by simp only[apure,he,Option.bind_some]
 have hal:aalloc E af ⟨dst,.call ⟨.builtin b,qargs,argTypes⟩,ty,pos,after,guard⟩=none:=rfl
 have hef:aeff E X.base af ⟨dst,.call ⟨.builtin b,qargs,argTypes⟩,ty,pos,after,guard⟩ h=(abuiltE E X.base h b argTypes.toList vs).bind fun r=>some (.val r.1,r.2):=by simp only[aeff,he,Option.bind_some]
 have hrd:b≠ .len→aread E af ⟨dst,.call ⟨.builtin b,qargs,argTypes⟩,ty,pos,after,guard⟩=none:=fun hb=>by
  cases b<;>first|rfl |exact absurd rfl hb
 unfold wbuiltin at hw
 split at hw
 ·rename_i t ts x xs hts
  obtain⟨xv,m,rfl,h1,h2⟩:=hr.inv_cons
  refine wlen_ok L H hw h1 (fun d hd=>?_) (fun k e r hd hx=>?_)
  ·rw[hp,hts]
   simp only[abuiltP,hd,Option.bind_some]
   try rfl
  ·subst hx
   simp only[aread,hts,he,Option.bind_some,hd]
 ·rename_i st xt s x hts
  obtain⟨sv,m,rfl,h1,h2⟩:=hr.inv_cons
  obtain⟨xv,m',rfl,h3,h4⟩:=h2.inv_cons
  obtain rfl:=h4.inv_nil
  refine wappend_ok L H hw h1 h3 (by rw[hp,hts];rfl) (hrd (by simp)) hal ?_
  rw[hef,hts];rfl
 ·rename_i ts k x k' y
  obtain⟨sv,m,rfl,h1,h2⟩:=hr.inv_cons
  obtain⟨xv,m',rfl,h3,h4⟩:=h2.inv_cons
  obtain rfl:=h4.inv_nil
  rw[h1.inv_s.1,h3.inv_s.1]at hp
  exact Did.pure H (x:=.int k (if y>x then y else x)) (by rw[hp];rfl) (.s rfl) hw
 ·rename_i ts k x k' y
  obtain⟨sv,m,rfl,h1,h2⟩:=hr.inv_cons
  obtain⟨xv,m',rfl,h3,h4⟩:=h2.inv_cons
  obtain rfl:=h4.inv_nil
  rw[h1.inv_s.1,h3.inv_s.1]at hp
  exact Did.pure H (x:=.int k (if y<x then y else x)) (by rw[hp];rfl) (.s rfl) hw
 ·rename_i t ts m k hts
  obtain⟨mv,m1,rfl,h1,h2⟩:=hr.inv_cons
  obtain⟨kv,m',rfl,h3,h4⟩:=h2.inv_cons
  obtain rfl:=h4.inv_nil
  refine wdelete_ok L H hw h1 h3 (by rw[hp,hts];rfl) (hrd (by simp)) hal ?_
  rw[hef,hts];rfl
 ·rename_i t ts m i args hts
  obtain⟨xv,m1,rfl,h1,h2⟩:=hr.inv_cons
  split at hw
  ·rename_i elem hd
   split at hw
   ·rename_i zv z es hz hl
    split at hw
    ·rename_i zs hzs
     split at hw
     ·rename_i hc
      refine wclearS_ok L H hd hz hl hzs hc hw h1 (by rw[hp,hts];rfl) (hrd (by simp)) hal ?_
      rw[hef,hts];rfl
     ·exact hw.elim
    ·exact hw.elim
   ·exact hw.elim
  ·exact hw.elim
 ·rename_i t ts n args hts
  obtain⟨mv,m1,rfl,h1,h2⟩:=hr.inv_cons
  split at hw
  ·rename_i d kn es hd hl
   refine wclear_ok H hl (.inl ⟨_,rfl⟩) hw h1 (by rw[hp,hts];rfl) (hrd (by simp)) hal (by rw[L.desc _ _ hd];rfl) ?_ (t:=t)
   rw[hef,hts];rfl
  ·rename_i d kn es op hd hl
   refine wclear_ok H hl (.inr ⟨_,_,rfl⟩) hw h1 (by rw[hp,hts];rfl) (hrd (by simp)) hal (by rw[L.desc _ _ hd];rfl) ?_ (t:=t)
   rw[hef,hts];rfl
  ·exact hw.elim
 ·exact hw.elim
theorem encB_len (s:ByteArray):(encB s).length=s.size:=by simp[encB]
theorem VRs_u8 {c:Nat} {ρ:Gh} {F:Nat→Prop} {h:AHeap}:∀{ns:List Int} {vs:List Value},VRs c ρ F h (encU8 ns).flatten vs→vs=ns.map (Value.int .u8)
 |[],vs,H=>H.inv_nil
 |n::ns,vs,H=>by
  obtain⟨v,vs',rfl,h1,h2⟩:=H.inv_cons
  rw[h1.inv_s.1,VRs_u8 h2];rfl
theorem u8s_map:∀ns:List Int,u8s (ns.map (Value.int .u8))=some ns
 |[]=>rfl
 |n::ns=>by simp only[List.map_cons,u8s,u8s_map ns,Option.bind_some]
theorem wconvert_ok (L:EnvLe T E) (H:Mem X ρ F o c h) {s d:TypeId} {x:TV} {xv:Value} (hw:wconvert T s d x o c K) (hx:VR c ρ F h x xv)
 (hp:apure E af p=aconv E s d xv) (hq:aread E af p=none) (hal:aalloc E af p=none) (he:aeff E X.base af p h=(aconvE E X.base h s d xv).bind fun r=>some (.val r.1,r.2)):Did E X ρ F o c af h p K:=by
 unfold wconvert at hw
 split at hw
 ·rename_i v
  have:=hx.inv_s.1;subst this
  split at hw
  ·rename_i str e hd
   split at hw
   ·rename_i sd ed hs hed
    split at hw
    ·rename_i hu
     have hpn:apure E af p=none:=by rw[hp];simp[aconv,L.desc _ _ hs,L.desc _ _ hd]
     have E1:ER c ρ F h 1 (encB str) (strBytes str):=by
      refine⟨by simp[encB,strBytes],fun e he=>?_,fun e he t ht=>?_,fun i j e t v q1 q2 q3=>?_⟩
      ·simp only[encB,List.mem_map]at he;obtain⟨b,_,rfl⟩:=he;rfl
      ·simp only[encB,List.mem_map]at he;obtain⟨b,_,rfl⟩:=he
       simp at ht;subst ht;rfl
      ·simp only[encB,List.getElem?_map,Option.map_eq_some_iff]at q1
       obtain⟨b,q1,rfl⟩:=q1
       cases j with
       |succ j=>simp at q2
       |zero=>
        simp at q2;subst q2
        simp only[strBytes,List.getElem?_map,Nat.mul_one,Nat.add_zero,q1,Option.map_some,Option.some.injEq]at q3
        subst q3;exact .s rfl
     obtain⟨M2,k2⟩:=H.newArr E1 (by omega)
     refine Did.eff (x:=.slice (some ⟨h.size,0,some 1⟩) str.size (str.size+1)) (h':=h.push (.cells (strBytes str) h.size h.size 0)) H hpn hq hal (by rw[he];simp[aconvE,L.desc _ _ hs,L.desc _ _ hd,L.desc _ _ hed,hu,grd,fresh]) ⟨M2,k2,by show h.size≤h.size+1;omega,fun _ hb=>hb,fun b cs hb hr=>(rd_push H.wf.le _ (H.Flt hb)).trans hr⟩ ?_ (fun m y hl hm=>?_) hw
     ·refine .tk (by omega) rfl (fun b z len hx=>?_) (fun z hx=>?_)
      ·rw[updG_self]at hx;cases hx;exact⟨str.size+1,by rw[encB_len];omega,by rw[encB_len]⟩
      ·rw[updG_self]at hx;cases hx
     ·have hmc:=H.lt hl
      refine⟨⟨y,by rw[look_cons,if_neg (by simp only;omega)];exact hl⟩,by rw[updG_ne _ _ (by omega)],fun b hb=>?_⟩
      have:=H.atB_lt hl hb
      exact⟨by rw[AHeap.get_push,if_neg (by omega)],fun cs hr=>by rw[rd_push H.wf.le _ this];exact hr⟩
    ·exact hw.elim
   ·exact hw.elim
  ·exact PRes.did H (pure1_ok hw fun x hx=>aconv_mono L hx) hp
 ·split at hw
  ·rename_i z es hes
   split at hw
   ·rename_i e hd hs
    split at hw
    ·rename_i ed hed
     split at hw
     ·rename_i hc
      simp only[Bool.and_eq_true,Bool.or_eq_true,beq_iff]at hc
      obtain⟨hu,hz⟩:=hc
      obtain⟨ns,rfl,hK⟩:=hw
      obtain⟨hlen,_,_,hcont⟩:=content_rel H hes (n:=1) (hz.imp id fun h=>⟨h,rfl⟩) (by simp) hx
      obtain⟨a,cap,rfl⟩:∃a cap,xv= .slice a (encU8 ns).length cap:=by
       unfold lenV at hlen
       split at hlen
       ·cases hlen;exact⟨_,_,rfl⟩
       ·exfalso
        unfold esQ at hes
        split at hes
        ·cases hx with|tk _ h1=>simp[slV]at h1
        ·cases hx
        ·cases hes
       ·cases hlen
      have hpn:apure E af p=none:=by rw[hp];simp[aconv,L.desc _ _ hs,L.desc _ _ hd]
      have hce:aconvE E X.base h s d (.slice a (encU8 ns).length cap)=some (.string (strOf ns),h):=by
       simp only[aconvE,L.desc _ _ hs,L.desc _ _ hd,L.desc _ _ hed,hu,Option.bind_some,grd,bif_eq,beq_iff]
       split
       ·rename_i h0
        have:ns=[]:=by simpa[encU8]using h0
        subst this;rfl
       ·rename_i h0
        rcases hcont with h1|⟨new,h1,_,_,_,hV⟩
        ·rw[h1]at h0;simp at h0
        ·have e2:=VRs_u8 (ns:=ns) (vs:=new) (by simpa[apOp]using hV)
         rw[h1,e2]
         simp only[Option.bind_some,u8s_map]
      exact Did.eff H hpn hq hal (by rw[he,hce];rfl) (.refl H) (.s rfl) (.refl _) hK
     ·exact hw.elim
    ·exact hw.elim
   ·exact hw.elim
  ·exact hw.elim
theorem fillQ_rel {base n len:Nat} {es:List (List TV)} (hlen:es.length=len):∀{ps:List (Nat×TV)} {pv:List (Nat×Value)} {op:List (Nat×List TV)} {cs:List Value},
 (ps.all fun p=>okV p.2&&Nat.beq (cellsT p.2).length n&&Nat.blt p.1 len)=true→EQ c ρ F h base n [] es op cs→PRs c ρ F h ps pv→
 ∃cv,fillA (fun i=>some (i*n,n)) cs pv=some cv∧EQ c ρ F h base n [] es (opsP ps op) cv
 |[],[],op,cs,_,hQ,_=>⟨cs,rfl,hQ⟩
 |[],_::_,_,_,_,_,h2=>h2.elim
 |_::_,[],_,_,_,_,h2=>h2.elim
 |q::ps,(k,x)::pv,op,cs,ha,hQ,h2=>by
  obtain⟨e0,hvx,h2⟩:=h2
  obtain rfl:q.1=k:=e0
  simp only[List.all_cons,Bool.and_eq_true,beq_iff,blt_iff]at ha
  obtain⟨⟨⟨hov,hqn⟩,hql⟩,ha⟩:=ha
  have hcr:=cells_rel hvx hov
  obtain⟨hal,hzs⟩:=apOp_len hQ.each hQ.hop
  have hlenr:q.1<(apOp es op).length:=by omega
  obtain⟨row,hrow⟩:∃e,(apOp es op)[q.1]? =some e:=⟨_,List.getElem?_eq_getElem hlenr⟩
  have hrl:=hzs row (List.mem_of_getElem? hrow)
  have hC:=hQ.cell
  rw[←set_self hrow]at hC
  obtain⟨S1,S2,S3,v1,v2,v3,e0,e1,a1,a2,a3⟩:=rows_split hzs hlenr hC
  have e2:v1.length=q.1*n:=by
   have h1:=a1.len
   have:=(flatten_row hzs hrow).2
   rw[Nat.add_mul]at this
   rw[←h1,List.length_take];omega
  have e3:v2.length=n:=by rw[←a2.len];exact hrl
  have e4:setN v2 0 x.cells.toList=some x.cells.toList:=by
   obtain⟨r,hr⟩:=setN_ex (n:=0) (l:=v2) (xs:=x.cells.toList) (by rw[←hcr.1];omega)
   rw[hr,setN_eq hr]
   have:v2.length≤x.cells.toList.length:=by rw[←hcr.1];omega
   rw[List.take_zero,List.drop_zero,List.nil_append,List.drop_eq_nil_of_le this,List.append_nil]
  have e5:=setN_mid (v1:=v1) (v3:=v3) e4
  rw[Nat.add_zero,e2,←e1]at e5
  simp only[List.append_eq_nil_iff,List.nil_eq]at e0
  obtain⟨rfl,rfl,rfl⟩:=e0
  have hJ:=rows_join hzs hlenr a1 (CNs.ofVRs (base:=base) hcr) a3
  have hQ1:EQ c ρ F h base n [] es ((q.1,cellsT q.2)::op) (v1++(x.cells.toList++v3)):=by
   refine⟨?_,hQ.each,hQ.cl,fun p hp=>?_,hJ⟩
   ·have:=(setN_some e5).2.1
    rw[this];exact hQ.len
   ·rcases List.mem_cons.1 hp with rfl |hp
    ·exact⟨by omega,hqn⟩
    ·exact hQ.hop p hp
  obtain⟨cv,g1,g2⟩:=fillQ_rel hlen ha hQ1 h2
  refine⟨cv,?_,g2⟩
  have:x.cells.size=n:=by have:=hcr.1;simp only[Array.length_toList]at this;omega
  simp[fillA,this,e5,grd,g1]
theorem wop_ok (L:EnvLe T E) (NX:TabX E X) (H:Mem X ρ F o c h) (S:vSlots c ρ F h f af) (hw:wop T (VC E) p.op f o c K):Did E X ρ F o c af h p K:=by
 obtain⟨dst,op,ty,pos,after,guard⟩:=p
 have N:TabOk T F h:=(NX.now H).sub L
 simp only at hw
 unfold wop at hw
 split at hw
 ·exact hw.elim
 ·rename_i hev
  cases op with
  |move x=>
   obtain⟨v,h1,h2⟩:=ev1 (E:=E) L N S hev (x:=x) (by simp[Op.operands])
   obtain⟨hK,_⟩:=force_iff hw
   exact Did.pure H (x:=v) h1 h2 hK
  |assign x=>
   obtain⟨v,h1,h2⟩:=ev1 (E:=E) L N S hev (x:=x) (by simp[Op.operands])
   obtain⟨hK,_⟩:=force_iff hw
   exact Did.pure H (x:=v) h1 h2 hK
  |pick q a b=>
   obtain⟨qv,h1,h2⟩:=ev1 (E:=E) L N S hev (x:=q) (by simp[Op.operands])
   obtain⟨av,h3,h4⟩:=ev1 (E:=E) L N S hev (x:=a) (by simp[Op.operands])
   obtain⟨bv,h5,h6⟩:=ev1 (E:=E) L N S hev (x:=b) (by simp[Op.operands])
   simp only at hw
   split at hw
   ·rename_i qb he
    rw[he]at h2
    have:=h2.inv_s.1;subst this
    split at hw
    ·obtain⟨hK,_⟩:=force_iff hw
     exact Did.pure H (x:=av) (by simp[apure,h1,h3,asB]) h4 hK
    ·obtain⟨hK,_⟩:=force_iff hw
     exact Did.pure H (x:=bv) (by simp[apure,h1,h5,asB]) h6 hK
   ·exact hw.elim
  |alloc t=>
   simp only at hw
   split at hw
   ·rename_i z hz
    split at hw
    ·rename_i zs hzs
     obtain⟨hz',hpl⟩:=L.zero _ _ hz
     exact cells_did H (zcells_rel hpl hzs) rfl rfl (by simp[aalloc,hz']) hw
    ·exact hw.elim
   ·exact hw.elim
  |box t x=>
   obtain⟨v,h1,h2⟩:=ev1 (E:=E) L N S hev (x:=x) (by simp[Op.operands])
   simp only at hw
   obtain⟨hK,hne⟩:=force_iff hw
   have hal:aalloc E af ⟨dst,.box t x,ty,pos,after,guard⟩=some (.cells v.cells.toList,.ptr):=by simp[aalloc,h1]
   split at hK
   ·exact hK.elim
   ·exact hK.elim
   ·exact hK.elim
   ·rename_i cs he
    have hcr:=cells_rel h2 (by rw[he];rfl)
    rw[he]at hcr
    exact cells_did H hcr rfl rfl hal hK
   ·rename_i n1 n2 n4 n3
    have hok:okV (evT T f x)=true:=by
     cases he:evT T f x with
     |j=>exact absurd he n1
     |tup cs=>exact absurd he (n2 cs)
     |sv a b=>exact absurd he (n4 a b)
     |_=>rfl
    have hcr:=cells_rel h2 hok
    have hce:cellsT (evT T f x)=[evT T f x]:=by
     cases he:evT T f x with
     |agg cs=>exact absurd he (n3 cs)
     |_=>rfl
    rw[hce]at hcr
    exact cells_did H hcr rfl rfl hal hK
  |build t ps=>
   obtain⟨pv,h1,h2⟩:=vevParts_rel (E:=E) L N S (l:=ps.toList) (by simpa[Op.operands]using hev)
   exact PRes.did H (wbuild_ok L hw h2) (by simp[apure,h1])
  |buildSlice t len ps=>
   obtain⟨pv,h1,h2⟩:=vevParts_rel (E:=E) L N S (l:=ps.toList) (by simpa[Op.operands]using hev)
   simp only at hw
   unfold wbuildSlice at hw
   split at hw
   ·rename_i elem hd
    split at hw
    ·rename_i n z hn hz
     obtain⟨hz',hpl⟩:=L.zero _ _ hz
     split at hw
     ·rename_i zs hc hzs
      simp only[Bool.and_eq_true,beq_iff,ble_iff,blt_iff]at hc
      obtain⟨⟨hc1,hc2⟩,hc3⟩:=hc
      split at hw
      ·rename_i es hzf hfs
       have hzr:=zcells_rel (c:=c) (ρ:=ρ) (F:=F) (h:=h) hpl hzs
       have hzl:zs.length=n:=by have:=hzr.1;simp only[Array.length_toList]at this;omega
       obtain⟨F',cv,S',b1,b2,b3⟩:=fillS_rel H hfs (ER.replicate hzr hzl hzf len) h2
       have hel:es.length=len:=by rw[b3];simp
       refine arr_did H S' (cap:=len) b2 hc3 (by omega) rfl rfl ?_ hw
       simp only[aalloc,L.desc _ _ hd,Option.bind_some,h1,L.size _ _ hn,hz',hc2,ble_iff.2 hc1,grd]
       rw[hel]
       simp[b1]
      ·rename_i hzf hfs
       split at hw
       ·rename_i hall
        have hzr:=zcells_rel (c:=c) (ρ:=ρ) (F:=F) (h:=h) hpl hzs
        have hzl:zs.length=n:=by have:=hzr.1;simp only[Array.length_toList]at this;omega
        have hE:=ER.replicate hzr hzl hzf len
        have hQ0:EQ c ρ F h X.base n [] (List.replicate len zs) [] (repeatL z.cells.toList len):=
         ⟨hE.len,hE.each,fun e he t ht=>by
          have:=hE.fz e he t ht
          unfold clT;split<;>first|rfl |exact this,by simp,CNs.ofVRs (VRs_flatten hE.len hE.each hE.cell)⟩
        obtain⟨cv,g1,hQ⟩:=fillQ_rel (by simp) hall hQ0 h2
        obtain⟨M1,k1⟩:=H.newArq hQ hc3
        refine Did.alloc H (.refl H) (md:=.cells cv) (hd:=.slice n len len) rfl rfl ?_ M1 k1 (.tk (by omega) rfl (fun b z' len' hx=>?_) (fun z' hx=>?_)) hw
        ·simp only[aalloc,L.desc _ _ hd,Option.bind_some,h1,L.size _ _ hn,hz',hc2,ble_iff.2 hc1,grd]
         simp[g1]
        ·rw[updG_self]at hx;cases hx;exact⟨len,by simp,by simp[Hold.val]⟩
        ·rw[updG_self]at hx;cases hx
       ·exact hw.elim
      ·exact hw.elim
     ·exact hw.elim
    ·exact hw.elim
   ·exact hw.elim
  |load t a=>
   obtain⟨av,h1,h2⟩:=ev1 (E:=E) L N S hev (x:=a) (by simp[Op.operands])
   obtain⟨q,h3,h4⟩:=wload_ok L H hw h2
   exact h4.did rfl (by simp only[aread,h1,Option.bind_some];exact h3)
  |store t a v=>
   obtain⟨av,h1,h2⟩:=ev1 (E:=E) L N S hev (x:=a) (by simp[Op.operands])
   obtain⟨vv,h3,h4⟩:=ev1 (E:=E) L N S hev (x:=v) (by simp[Op.operands])
   exact wstore_ok L H hw h2 h4 rfl rfl rfl (by simp only[aeff,h1,h3,Option.bind_some];rfl)
  |nilCheck x=>
   obtain⟨v,h1,h2⟩:=ev1 (E:=E) L N S hev (x:=x) (by simp[Op.operands])
   simp only at hw
   split at hw
   ·rename_i n q he
    rw[he]at h2
    cases h2 with
    |ptr hb=>exact Did.pure H (by simp[apure,h1,nilCheckV]) (.ptr hb) hw
   ·rename_i e q he
    rw[he]at h2
    cases h2 with
    |ep a1 a2 a3 a4 a5=>exact Did.pure H (by simp[apure,h1,nilCheckV]) (.ep a1 a2 a3 a4 a5) hw
   ·rename_i g a b he
    rw[he]at h2
    cases h2 with
    |clo a1 a2 a3 a4=>exact Did.pure H (by simp[apure,h1,nilCheckV]) (.clo a1 a2 a3 a4) hw
   ·exact hw.elim
  |binOp bop t x y t2=>
   obtain⟨av,h1,h2⟩:=ev1 (E:=E) L N S hev (x:=x) (by simp[Op.operands])
   obtain⟨bv,h3,h4⟩:=ev1 (E:=E) L N S hev (x:=y) (by simp[Op.operands])
   exact PRes.did H (wbin_ok L hw h2 h4) (by simp[apure,h1,h3])
  |unOp uop t x=>
   obtain⟨v,h1,h2⟩:=ev1 (E:=E) L N S hev (x:=x) (by simp[Op.operands])
   simp only at hw
   split at hw
   ·rename_i w he
    split at hw
    ·rename_i hs
     rw[he]at h2
     have:=h2.inv_s.1;subst this
     exact PRes.did H (pure1_ok hw fun x hx=>hx) (by simp[apure,h1,hs,grd])
    ·exact hw.elim
   ·exact hw.elim
  |convert s d x=>
   obtain⟨v,h1,h2⟩:=ev1 (E:=E) L N S hev (x:=x) (by simp[Op.operands])
   exact wconvert_ok L H hw h2 (by simp[apure,h1]) rfl rfl (by simp[aeff,h1])
  |makeInterface t x=>
   obtain⟨v,h1,h2⟩:=ev1 (E:=E) L N S hev (x:=x) (by simp[Op.operands])
   simp only at hw
   split at hw
   ·exact hw.elim
   ·exact hw.elim
   ·rename_i d hd n1
    split at hw
    ·exact hw.elim
    ·refine Did.pure H (x:=.iface t v) ?_ (.ifc h2) hw
     simp only[apure,L.desc _ _ n1,Option.bind_some,h1]
  |makeFunc fn first captured=>
   simp only at hw
   split at hw
   ·rename_i g
    have he:(first.toList.all (evOk T)=true)∧(captured.toList.all (evOk T)=true):=by
     simpa[Op.operands]using hev
    obtain⟨a,h1,h2⟩:=vevs_rel (E:=E) L N S he.1
    obtain⟨b,h3,h4⟩:=vevs_rel (E:=E) L N S he.2
    exact Did.pure H (x:=.func (.func g) a.toArray b.toArray) (by simp[apure,h1,h3]) (.clo (by simpa using h2.1) (fun i t v q1 q2=>h2.2 i t v q1 (by simpa using q2)) (by simpa using h4.1) (fun i t v q1 q2=>h4.2 i t v q1 (by simpa using q2))) hw
   ·exact hw.elim
  |makeMap t r=>
   cases r with
   |some r=>exact hw.elim
   |none=>
    simp only at hw
    split at hw
    ·split at hw
     ·split at hw
      ·exact map_did H _ rfl rfl rfl hw
      ·exact hw.elim
     ·exact hw.elim
    ·exact hw.elim
  |makeSlice t l k=>
   obtain⟨lv,h1,h2⟩:=ev1 (E:=E) L N S hev (x:=l) (by simp[Op.operands])
   obtain⟨kv,h3,h4⟩:=ev1 (E:=E) L N S hev (x:=k) (by simp[Op.operands])
   simp only at hw
   unfold wmakeSlice at hw
   split at hw
   ·rename_i elem li ki hd hli hki
    split at hw
    ·rename_i n bytes z hn hby hz
     obtain⟨hz',hpl⟩:=L.zero _ _ hz
     split at hw
     ·rename_i zs hc hzs
      simp only[Bool.and_eq_true,beq_iff,blt_iff]at hc
      obtain⟨hc,hby0⟩:=hc
      split at hw
      ·rename_i hzf
       obtain⟨⟨b1,b2,b30⟩,hK⟩:=hw
       have b3:(ki+1)*((bytes:Int)+1)≤1099511627776:=by
        have h1:(ki.toNat+1)*(bytes+1)≤1099511627776:=size_le (by omega) hby0
        have h2:ki=(ki.toNat:Int):=by omega
        rw[h2]
        have h3:=Int.ofNat_le.2 h1
        rw[Int.natCast_mul]at h3
        exact h3
       have hzr:=zcells_rel (c:=c) (ρ:=ρ) (F:=F) (h:=h) hpl hzs
       have hzl:zs.length=n:=by have:=hzr.1;simp only[Array.length_toList]at this;omega
       have hE:=ER.replicate hzr hzl hzf li.toNat
       refine arr_did H (.refl H) (cap:=bif Nat.beq li.toNat ki.toNat then li.toNat else li.toNat+1) hE hc.2 (by simp only[List.length_replicate,bif_eq];split<;>omega) rfl rfl ?_ hK
       simp only[aalloc,L.desc _ _ hd,Option.bind_some,h1,h3,asIT_rel hli h2,asIT_rel hki h4,L.size _ _ hn,L.bytes _ _ hby,hz',hc.1,grd]
       simp[b1,b2,b3]
      ·exact hw.elim
     ·exact hw.elim
    ·exact hw.elim
   ·exact hw.elim
  |slice t x lo hi mx=>
   obtain⟨xv,h1,h2⟩:=ev1 (E:=E) L N S hev (x:=x) (by simp[Op.operands])
   obtain⟨lov,h3,h4⟩:=evO (E:=E) L N S hev (x:=lo) (fun y e=>by subst e;simp[Op.operands])
   obtain⟨hiv,h5,h6⟩:=evO (E:=E) L N S hev (x:=hi) (fun y e=>by subst e;simp[Op.operands])
   obtain⟨mxv,h7,h8⟩:=evO (E:=E) L N S hev (x:=mx) (fun y e=>by subst e;simp[Op.operands])
   exact(wslice_ok L H hw h2 h4 h6 h8).did H (by simp[apure,h1,h3,h5,h7])
  |fieldAddr s x fd=>
   obtain⟨v,h1,h2⟩:=ev1 (E:=E) L N S hev (x:=x) (by simp[Op.operands])
   exact PRes.did H (wfieldAddr_ok L H hw h2) (by simp only[apure,h1,Option.bind_some];rfl)
  |field t x fd=>
   obtain⟨v,h1,h2⟩:=ev1 (E:=E) L N S hev (x:=x) (by simp[Op.operands])
   exact PRes.did H (wfield_ok L hw h2) (by simp only[apure,h1,Option.bind_some];rfl)
  |indexAddr t x i=>
   obtain⟨v,h1,h2⟩:=ev1 (E:=E) L N S hev (x:=x) (by simp[Op.operands])
   obtain⟨iv,h3,h4⟩:=ev1 (E:=E) L N S hev (x:=i) (by simp[Op.operands])
   exact PRes.did H (windexAddr_ok L H hw h2 h4) (by simp[apure,h1,h3])
  |index t x i=>
   obtain⟨v,h1,h2⟩:=ev1 (E:=E) L N S hev (x:=x) (by simp[Op.operands])
   obtain⟨iv,h3,h4⟩:=ev1 (E:=E) L N S hev (x:=i) (by simp[Op.operands])
   exact PRes.did H (windex_ok L hw h2 h4) (by simp[apure,h1,h3])
  |lookup t x i ok=>
   obtain⟨v,h1,h2⟩:=ev1 (E:=E) L N S hev (x:=x) (by simp[Op.operands])
   obtain⟨iv,h3,h4⟩:=ev1 (E:=E) L N S hev (x:=i) (by simp[Op.operands])
   rcases wlookup_ok L H hw h2 h4 with⟨rfl,R⟩|⟨r,rfl,q,hq,R⟩
   ·exact PRes.did H R (by simp only[apure,h1,h3,Option.bind_some];cases E.desc t with|none=>rfl |some d=>cases d<;>rfl)
   ·refine R.did ?_ (by simp only[aread,h1,h3,Option.bind_some];exact hq)
    simp only[apure,h1,h3,Option.bind_some]
    cases E.desc t with
    |none=>rfl
    |some d=>cases d<;>rfl
  |mapUpdate t m k v=>
   obtain⟨mv,h1,h2⟩:=ev1 (E:=E) L N S hev (x:=m) (by simp[Op.operands])
   obtain⟨kv,h3,h4⟩:=ev1 (E:=E) L N S hev (x:=k) (by simp[Op.operands])
   obtain⟨vv,h5,h6⟩:=ev1 (E:=E) L N S hev (x:=v) (by simp[Op.operands])
   exact wmapUpdate_ok L H hw h2 h4 h6 rfl rfl rfl (by simp only[aeff,h1,h3,h5,Option.bind_some];rfl)
  |extract t i=>
   obtain⟨v,h1,h2⟩:=ev1 (E:=E) L N S hev (x:=t) (by simp[Op.operands])
   simp only at hw
   split at hw
   ·rename_i vs he
    rw[he]at h2
    obtain⟨a,rfl,h3⟩:=h2.inv_tup
    split at hw
    ·rename_i w hi
     obtain⟨hK,_⟩:=force_iff hw
     have hlt:=(List.getElem?_eq_some_iff.1 hi).1
     have hlt2:i<a.toList.length:=by rw[←h3.1];exact hlt
     obtain⟨x,hx⟩:∃x,a.toList[i]? =some x:=⟨_,List.getElem?_eq_getElem hlt2⟩
     exact Did.pure H (x:=x) (by simp only[apure,h1,Option.bind_some];exact hx) (h3.2 i w x hi hx) hK
    ·exact hw.elim
   ·exact hw.elim
  |call q=>
   obtain⟨callee,qargs,argTypes⟩:=q
   simp only at hw
   split at hw
   ·rename_i b
    have hevA:qargs.toList.all (evOk T)=true:=by simpa[Op.operands,Call.operands]using hev
    obtain⟨vs,h1,h2⟩:=vevs_rel (E:=E) L N S hevA
    exact wbuiltin_ok L H hw h2 h1
   ·rename_i g
    have he:evOk T g=true∧qargs.toList.all (evOk T)=true:=by simpa[Op.operands,Call.operands]using hev
    obtain⟨gv,h1,h2⟩:=vev_rel (E:=E) L N S he.1
    obtain⟨vs,h3,h4⟩:=vevs_rel (E:=E) L N S he.2
    split at hw
    ·rename_i g' a b hg
     rw[hg]at h2
     cases h2 with
     |clo hs ha ht hk=>
      rename_i a' k'
      have ha':VRs c ρ F h a a'.toList:=⟨by simpa using hs,fun i t v q1 q2=>ha i t v q1 (by simpa using q2)⟩
      have hk':VRs c ρ F h b k'.toList:=⟨by simpa using ht,fun i t v q1 q2=>hk i t v q1 (by simpa using q2)⟩
      refine wcall_ok NX H (L.still g') hw ((ha'.append h4).append hk') rfl rfl rfl ?_
      simp only[aeff,h3,h1,Option.bind_some]
    ·exact hw.elim
   ·exact hw.elim
  |_=>exact hw.elim
end
end Go.M
