/-
  Part 8 of the library that the proof leans on.
-/
import Derived.Test.YtmocpiopjkmnhaaGreatDoorL7
namespace Go.M
open Go
section
variable {T E:Env} {X:Cx} {ρ:Gh} {F:Nat→Prop} {o:Ob} {c:Nat} {af:AF} {f:Fr} {h:AHeap} {p:Oper} {K:OK}
theorem Did.eff (_:Mem X ρ F o c h) {v:TV} {x:Value} {h':AHeap} {ρ':Gh} {F':Nat→Prop} {o':Ob} {c':Nat} {ns:List Nat} (hp:apure E af p=none) (hq:aread E af p=none) (ha:aalloc E af p=none)
 (he:aeff E X.base af p h=some (.val x,h')) (hN:Nx X ρ F o c h ρ' F' o' c' h') (hv:VR c' ρ' F' h' v x) (hr:Raw ρ o h ρ' o' h' ns) (hK:K v o' c' (.eff ns)):Did E X ρ F o c af h p K:=by
 refine⟨0,⟨x,h',.eff h h'⟩,v,o',c',ρ',F',.eff ns,fun n _=>?_,hK,hN,hv,.eff hr⟩
 unfold runOp;rw[hp,hq,ha,he]
theorem raw_set (H:Mem X ρ F o c h) {F1:Nat→Prop} {o1:Ob} (Sh:ShOk X ρ c h F o F1 o1) {S:Nat→Ft} (K1:MO X ρ F1 o1 c h S) {m:Nat} {y y':TO} {h':AHeap} (hl:look o1 m=some y) {x:Nat} (hhm:x∈hds (S m))
 (same:∀z,z<h.size→hd h z≠x→h'.get z=h.get z):Raw ρ o h ρ (upd1 o1 m y') h' [m]:=by
 intro n yn hn hne
 have hne':n≠m:=by simpa using hne
 obtain⟨y1,k1,k2⟩:=Sh.wk n yn hn
 refine⟨⟨y1,by rw[look_upd1,if_neg hne'];exact k1⟩,rfl,fun b hb=>?_⟩
 obtain⟨q1,q2⟩:=Sh.mem.atB_hd K1 k1 hb
 have hhb:hd h b≠x:=fun e=>by
  rw[e]at q2
  exact hne' (K1.heads n m y1 y _ k1 hl q2 hhm)
 exact⟨same b q1 hhb,fun cs hr=>rd_same H.wf same hhb hr⟩
theorem nx_of (_:Mem X ρ F o c h) {F1:Nat→Prop} {o1:Ob} (S:ShOk X ρ c h F o F1 o1) {ρ':Gh} {F2:Nat→Prop} {o2:Ob} {c2:Nat} {h':AHeap} (M:Mem X ρ' F2 o2 c2 h') (hk:∀t x,VR c ρ F1 h t x→VR c2 ρ' F2 h' t x) (hF:∀b,F1 b→F2 b)
 (hsz:h.size≤h'.size) (frz:∀b cs,F b→h.rd b=some cs→h'.rd b=some cs):Nx X ρ F o c h ρ' F2 o2 c2 h':=
 ⟨M,fun t x hx=>hk t x (S.keep t x hx),hsz,fun b hb=>hF b (S.FF b hb),frz⟩
theorem okC_one {t:TV} {x:Value} (ho:okC t=true) (hv:VR c ρ F h t x):oneC x=true:=by
 cases hv with
 |s hp=>cases x<;>simp[plain1]at hp<;>rfl
 |tk hn h1c=>cases x<;>simp[slV]at h1c;rfl
 |wp hn h1c=>cases x<;>simp[ptV]at h1c;rfl
 |j=>simp[okC]at ho
 |agg=>simp[okC]at ho
 |tup=>simp[okC]at ho
 |sv=>simp[okC]at ho
 |pv=>simp[okC]at ho
 |_=>rfl
theorem okC_all:∀{l:List TV} {m:List Value},l.all okC=true→VRs c ρ F h l m→m.all oneC=true
 |[],m,_,H=>by rw[H.inv_nil];rfl
 |t::l,m,ho,H=>by
  simp only[List.all_cons,Bool.and_eq_true]at ho
  obtain⟨v,m',rfl,h1,h2⟩:=H.inv_cons
  simp only[List.all_cons,Bool.and_eq_true]
  exact⟨okC_one ho.1 h1,okC_all ho.2 h2⟩
def cstore (E:Env) (base:Nat) (t:TypeId) (a v:Value) (h:AHeap):Option (ARes×AHeap):=(E.size t).bind fun n=>(asPtr a).bind fun p=>
      grd (Nat.beq v.cells.size n&&v.cells.toList.all oneC)<|(h.rd p.1).bind fun cs=>(setN cs p.2 v.cells.toList).bind fun cs'=>(h.wr base p.1 cs').bind fun h'=>some (.val undef,h')
theorem setN_mid {α:Type} {v1 v2 v3 v2' xs:List α} {p:Nat} (h:setN v2 p xs=some v2'):setN (v1++(v2++v3)) (v1.length+p) xs=some (v1++(v2'++v3)):=by
 obtain⟨s1,s2,s3⟩:=setN_some h
 obtain⟨r,hr⟩:=setN_ex (n:=v1.length+p) (l:=v1++(v2++v3)) (xs:=xs) (by simp;omega)
 rw[hr]
 congr 1
 rw[setN_eq hr,setN_eq h]
 rw[List.take_length_add_append,List.drop_length_add_append,List.take_append_of_le_length (by omega),List.drop_append_of_le_length (by omega),List.drop_append_of_le_length (by rw[List.length_drop];omega)]
 simp[List.append_assoc]
theorem CNs.setN {base:Nat} {S:Ft} {l xs r:List TV} {m ys:List Value} {p:Nat} (H:CNs c ρ F h base S l m) (hs:M.setN l p xs=some r) (hx:VRs c ρ F h xs ys):∃m' S',M.setN m p ys=some m'∧CNs c ρ F h base S' r m'∧S'.Sublist S:=by
 obtain⟨s1,s2,s3⟩:=setN_some hs
 have hlen:=H.len
 obtain⟨m',hm⟩:=setN_ex (n:=p) (l:=m) (xs:=ys) (by rw[←hx.1,←hlen];exact s1)
 obtain⟨S1,S2,S3,rfl,a1,a2,a3⟩:=H.part p xs.length
 refine⟨m',S1++S3,hm,?_,(List.sublist_append_right S2 S3).append_left S1⟩
 rw[setN_eq hs,setN_eq hm,←hx.1]
 exact a1.join ((CNs.ofVRs (base:=base) hx).join a3)
theorem set_self {α:Type} {l:List α} {i:Nat} {e:α} (he:l[i]? =some e):l.set i e=l:=by
 refine List.ext_getElem? fun k=>?_
 rw[List.getElem?_set]
 by_cases ek:i=k
 ·subst ek;rw[if_pos rfl,if_pos (List.getElem?_eq_some_iff.1 he).1,he]
 ·rw[if_neg ek]
theorem wstore_ok (L:EnvLe T E) (H:Mem X ρ F o c h) {t:TypeId} {a v:TV} {av vv:Value} (hw:wstore T t a v o c K) (ha:VR c ρ F h a av) (hv:VR c ρ F h v vv) (hp:apure E af p=none) (hq:aread E af p=none) (hal:aalloc E af p=none)
 (he:aeff E X.base af p h=cstore E X.base t av vv h):Did E X ρ F o c af h p K:=by
 unfold wstore at hw
 split at hw
 ·exact hw.elim
 ·rename_i n hn
  split at hw
  ·exact hw.elim
  ·rename_i hc
   simp only[Bool.and_eq_true,beq_iff]at hc
   obtain⟨⟨hov,hlen⟩,hall⟩:=hc
   have hcr:=cells_rel hv hov
   have hone:=okC_all hall hcr
   have hsz:vv.cells.size=n:=by have:=hcr.1;simp only[Array.length_toList]at this;omega
   have go:∀b q cs cs' h',av= .pointer (some ⟨b,q,none⟩)→h.rd b=some cs→setN cs q vv.cells.toList=some cs'→h.wr X.base b cs'=some h'→aeff E X.base af p h=some (.val undef,h'):=by
    rintro b q cs cs' h' rfl h1 h2 h3
    rw[he]
    unfold cstore
    simp only[L.size _ _ hn,Option.bind_some,asPtr,hsz,hone,h1,h2,h3,grd]
    simp
   split at hw
   ·rename_i m q
    split at hw
    ·rename_i cs hl
     split at hw
     ·rename_i cs1 hset
      obtain⟨S,K0⟩:=H.ex
      have hO:=K0.objs m _ hl
      generalize hS:S m=Sm at hO
      cases hO with
      |cells hb hg htt hc=>
       rename_i Sq b thr csv
       cases ha with
       |ptr hb'=>
        rw[hb]at hb';cases hb'
        have hrd:=rd_of (fam_of hg hg) htt (cellsOf_get hg)
        obtain⟨cs1v,S',h1,h2,h3⟩:=hc.setN hset hcr
        have hbS:(b,true)∈S m:=by rw[hS];exact List.mem_cons_self
        have hmine:=K0.mine m _ b hl (mem_hds hbS)
        have hnod:=K0.nod m _ hl
        rw[hS]at hnod
        obtain⟨n1,n2⟩:=List.nodup_cons.1 hnod
        have hsub:((b,true)::S').Sublist ((b,true)::Sq):=h3.cons_cons _
        have W:=wrH_ok (cs':=cs1v) H.wf hg (fam_of hg hg)
        obtain⟨t',th',hg'⟩:=W.self
        obtain⟨M,hk⟩:=H.set K0 (y':=.cells cs1) (S0:=(b,true)::S') hl hbS (fun p hp=>by rw[hS];exact hsub.subset hp) (show(hds _).Nodup from List.Sublist.nodup (hsub.map Prod.fst) hnod) W.size W.wf W.same W.hds fun hm frz=>by
         refine .cells hb (thr:=b) (cs':=cs1v) ?_ (Nat.le_refl _) (h2.keep (T:=fun x=>x=b) H.wf W.same (fun _ h=>h) frz hm fun x hx e=>?_)
         ·obtain⟨c0,hroot⟩:=fam_root W.fam
          simp only at hroot
          rw[hg']at hroot
          rw[hg',Option.some.injEq,AObj.cells.injEq]at*
          obtain⟨_,_,e3,e4⟩:=hroot
          exact⟨rfl,rfl,e3,e4⟩
         ·subst e;exact n1 ((h3.map Prod.fst).subset hx)
        refine Did.eff H hp hq hal (go _ _ _ _ _ rfl hrd h1 (wr_of hg (fam_of hg hg) hmine.1 hmine.1)) (nx_of H (.refl H) M hk (fun _ h=>h) (by rw[W.size];exact Nat.le_refl _) fun b' cs' hb' hr'=>rd_same H.wf W.same (K0.apart m _ _ b' hl hbS hb') hr') (.j _)
         (raw_set H (.refl H) K0 hl (mem_hds hbS) W.same) hw
     ·exact hw.elim
    ·exact hw.elim
   ·rename_i m i q
    -- a row of which each cell may name an object
    have row:∀{y:TO} {b f t0 th0 thr z:Nat} {es:List (List TV)} {e e1:List TV} {Sq:Ft} {cs:List Value} {S:Nat→Ft},MO X ρ F o c h S→look o m=some y→S m=(f,true)::Sq→ρ m=some (.arr b z es.length)→h.get b=some (.cells cs f t0 th0)→h.fam b=some (f,b,thr)→thr≤b→X.base≤f→0<z→cs.length=es.length*z→
     (∀e∈es,e.length=z)→(∀e∈es,∀t∈e,clT t=true)→i<es.length→e.length=z→av= .pointer (some ⟨b,i*z+q,none⟩)→CNs c ρ F h X.base Sq (es.set i e).flatten cs→setN e q (cellsT v)=some e1→K .j (upd1 o m (.arq z es [(i,e1)])) c (.eff [m])→Did E X ρ F o c af h p K:=by
     intro y b f t0 th0 thr z es e e1 Sq cs S K0 hl hS hb hg hf htt hbf hz hlen hee hcl hi hez hav hc hset hw
     obtain⟨S1,S2,S3,v1,v2,v3,rfl,rfl,a1,a2,a3⟩:=rows_split hee hi hc
     obtain⟨v2',S2',h1,h2,h3⟩:=a2.setN hset hcr
     have e1l:v1.length=i*z:=by
      have h1:=a1.len
      obtain⟨e0,he0⟩:∃e0,es[i]? =some e0:=⟨_,List.getElem?_eq_getElem hi⟩
      have:=(flatten_row hee he0).2
      rw[Nat.add_mul]at this
      rw[←h1,List.length_take];omega
     have hset2:setN (v1++(v2++v3)) (i*z+q) vv.cells.toList=some (v1++(v2'++v3)):=by rw[←e1l];exact setN_mid h1
     have hrd:=rd_of hf htt (cellsOf_get hg)
     have hfS:(f,true)∈S m:=by rw[hS];exact List.mem_cons_self
     have hmine:=K0.mine m _ f hl (mem_hds hfS)
     have hnod:=K0.nod m _ hl
     rw[hS]at hnod
     obtain⟨n1,n2⟩:=List.nodup_cons.1 hnod
     have hsub0:(S1++(S2'++S3)).Sublist (S1++(S2++S3)):=(h3.append_right S3).append_left S1
     have hsub:((f,true)::(S1++(S2'++S3))).Sublist ((f,true)::(S1++(S2++S3))):=hsub0.cons_cons _
     have hble:X.base≤b:=by have:=H.wf.le _ _ _ _ _ hg;omega
     have W:=wrH_ok (cs':=v1++(v2'++v3)) H.wf hg hf
     obtain⟨t',th',hg'⟩:=W.self
     have e1z:e1.length=z:=by rw[(setN_some hset).2.1];exact hez
     have hl2:v2'.length=v2.length:=(setN_some h1).2.1
     obtain⟨M,hk⟩:=H.set K0 (y':=.arq z es [(i,e1)]) (S0:=(f,true)::(S1++(S2'++S3))) hl hfS (fun p hp=>by rw[hS];exact hsub.subset hp) (show(hds _).Nodup from List.Sublist.nodup (hsub.map Prod.fst) hnod) W.size W.wf W.same W.hds fun hm frz=>by
      refine .arq hb hg' W.fam (Nat.le_refl _) hbf hz (by rw[←hlen];simp[hl2]) hee hcl (fun p hp=>?_) ((rows_join hee hi a1 h2 a3).keep (T:=fun x=>x=f) H.wf W.same (fun _ h=>h) frz hm fun x hx e=>?_)
      ·simp only[List.mem_singleton]at hp;subst hp;exact⟨hi,e1z⟩
      ·subst e;exact n1 ((hsub0.map Prod.fst).subset hx)
     refine Did.eff H hp hq hal (go _ _ _ _ _ hav hrd hset2 (wr_of hg hf hble hbf)) (nx_of H (.refl H) M hk (fun _ h=>h) (by rw[W.size];exact Nat.le_refl _) fun b' cs' hb' hr'=>rd_same H.wf W.same (K0.apart m _ _ b' hl hfS hb') hr') (.j _)
      (raw_set H (.refl H) K0 hl (mem_hds hfS) W.same) hw
    split at hw
    ·rename_i l hl0 hfz
     split at hw
     ·rename_i z es hl
      obtain⟨e,hee,hw⟩:=hw
      split at hw
      ·rename_i e1 hset
       obtain⟨F1,Sh,sv⟩:=shares_ok (cellsT v) H
       have H1:=Sh.mem
       have hl1:=sv l _ hfz hcr
       obtain⟨f1,f2⟩:=frzs_fz hfz
       obtain⟨b,z1,l1,hb,rfl⟩:=wp_ptr H1 hl rfl (Sh.keep _ _ ha)
       obtain⟨S,K1⟩:=H1.ex
       have hO:=K1.objs m _ hl
       generalize hS:S m=Sm at hO
       cases hO with
       |nil hb' hz=>rw[hb]at hb';cases hb'
       |arr hb' hg hf htt hbf hz hlen' hee' hfz' hc' hF=>
        rename_i f t0 th0 thr cs
        rw[hb]at hb';cases hb'
        have hE:ER c ρ F1 h z es cs:=⟨hlen',hee',hfz',hc'⟩
        have hrd:=rd_of hf htt (cellsOf_get hg)
        have hi:i<es.length:=(List.getElem?_eq_some_iff.1 hee).1
        have hez:=hee' e (List.mem_of_getElem? hee)
        obtain⟨s1,s2,s3⟩:=setN_some hset
        have hvl:vv.cells.toList.length=l.length:=hl1.1.symm
        have hle:(i+1)*z≤es.length*z:=Nat.mul_le_mul_right z hi
        rw[Nat.add_mul]at hle
        obtain⟨cs1,hcs1⟩:=setN_ex (n:=i*z+q) (l:=cs) (xs:=vv.cells.toList) (by rw[hlen',hvl];omega)
        obtain⟨t1,t2,t3⟩:=setN_some hcs1
        have hfS:(f,true)∈S m:=by rw[hS];exact List.mem_cons_self
        have hmine:=K1.mine m _ f hl (mem_hds hfS)
        have hble:X.base≤b:=by
         have:=H1.wf.le _ _ _ _ _ hg;omega
        have W:=wrH_ok (cs':=cs1) H.wf hg hf
        obtain⟨t',th',hg'⟩:=W.self
        have hE2:ER c ρ F1 h z (es.set i e1) cs1:=by
         refine hE.setAt (i:=i) (l:=e1) (fun j=>?_) (by simp) hi (by rw[s2,hez]) (fun t ht=>?_) t2 (fun j t v q1 q2=>?_) (fun k hk=>?_)
         ·rw[List.getElem?_set]
          by_cases ej:i=j
          ·subst ej;rw[if_pos rfl,if_pos rfl,if_pos hi]
          ·rw[if_neg ej,if_neg (fun e=>ej e.symm)]
         ·obtain⟨j,hj⟩:=List.getElem?_of_mem ht
          rw[s3]at hj
          split at hj
          ·exact f1 t (List.mem_of_getElem? hj)
          ·exact hfz' e (List.mem_of_getElem? hee) t (List.mem_of_getElem? hj)
         ·rw[s3]at q1
          rw[t3]at q2
          split at q1
          ·rename_i hj
           rw[if_pos ⟨by omega,by omega⟩]at q2
           exact hl1.2 (j - q) t v q1 (by rw[←q2];congr 1;omega)
          ·rename_i hj
           rw[if_neg (by omega)]at q2
           exact hc' i j e t v hee q1 q2
         ·rw[t3,if_neg]
          rw[Nat.add_mul]at hk;omega
        obtain⟨M,hk⟩:=H1.set K1 (y':=.arr z true (es.set i e1)) (S0:=[(f,true)]) hl hfS (fun p hp=>by simp only[List.mem_singleton]at hp;subst hp;exact hfS) (by simp[hds]) W.size W.wf W.same W.hds fun hm _=>
         OR.arr' (by simp[hb]) hg' W.fam (Nat.le_refl _) hbf hz (hE2.mono hm) (fun h=>by cases h)
        refine Did.eff H hp hq hal (go _ _ _ _ _ rfl hrd hcs1 (wr_of hg hf hble hbf)) (nx_of H Sh M hk (fun _ h=>h) (by rw[W.size];exact Nat.le_refl _) fun b' cs' hb' hr'=>rd_same H.wf W.same (K1.apart m _ _ b' hl hfS (Sh.FF _ hb')) hr') (.j _)
         (raw_set H Sh K1 hl (mem_hds hfS) W.same) hw
      ·exact hw.elim
     ·exact hw.elim
    ·rename_i z es hl hfz
     obtain⟨e,hee,hw⟩:=hw
     split at hw
     ·rename_i e1 hset
      obtain⟨b,z1,l1,hb,hav⟩:=wp_ptr H hl rfl ha
      obtain⟨S,K0⟩:=H.ex
      have hO:=K0.objs m _ hl
      generalize hS:S m=Sm at hO
      cases hO with
      |nil hb' hz=>rw[hb]at hb';cases hb'
      |arr hb' hg hf htt hbf hz hlen' hee' hfz' hc' hF=>
       rw[hb]at hb';cases hb'
       have hi:i<es.length:=(List.getElem?_eq_some_iff.1 hee).1
       refine row K0 hl hS hb hg hf htt hbf hz hlen' hee' (fun e he t ht=>?_) hi (hee' e (List.mem_of_getElem? hee)) hav (by rw[set_self hee];exact CNs.ofVRs (VRs_flatten hlen' hee' hc')) hset hw
       have:=hfz' e he t ht
       unfold clT;split<;>first|rfl |exact this
     ·exact hw.elim
    ·rename_i z es op hl
     obtain⟨b,z1,l1,hb,hav⟩:=wp_ptr H hl rfl ha
     obtain⟨S,K0⟩:=H.ex
     have hO:=K0.objs m _ hl
     generalize hS:S m=Sm at hO
     cases hO with
     |qnil hb' hz=>rw[hb]at hb';cases hb'
     |arq hb' hg hf htt hbf hz hlen' hee' hcl hop hc'=>
      rw[hb]at hb';cases hb'
      unfold welem at hw
      split at hw
      ·obtain⟨e,hee,hw⟩:=hw
       split at hw
       ·rename_i e1 hset
        have hi:i<es.length:=(List.getElem?_eq_some_iff.1 hee).1
        exact row K0 hl hS hb hg hf htt hbf hz hlen' hee' hcl hi (hee' e (List.mem_of_getElem? hee)) hav (by rw[set_self hee];exact hc') hset hw
       ·exact hw.elim
      ·rename_i j ej
       obtain⟨o1,o2⟩:=hop (j,ej) (by simp)
       by_cases eij:i=j
       ·subst eij
        have hw:=hw.1 rfl
        simp only at hw
        split at hw
        ·rename_i e1 hset
         exact row K0 hl hS hb hg hf htt hbf hz hlen' hee' hcl o1 o2 hav hc' hset hw
        ·exact hw.elim
       ·obtain⟨_,_,hw⟩:=hw.2 eij
        exact hw.elim
      ·obtain⟨_,_,hw⟩:=hw
       exact hw.elim
    ·exact hw.elim
   ·exact hw.elim
def cmapUpdate (E:Env) (base:Nat) (t:TypeId) (m k v:Value) (h:AHeap):Option (ARes×AHeap):=(amapUpdate E base h t m k v).bind fun h'=>some (.val undef,h')
theorem map_setG (H:Mem X ρ F o c h) {F1:Nat→Prop} {o1:Ob} (Sh:ShOk X ρ c h F o F1 o1) {S:Nat→Ft} (K1:MO X ρ F1 o1 c h S) {n:Nat} {y y':TO} {b clock clock':Nat} {ev ev1:List MapEntry} {Sq S':Ft} (hl:look o1 n=some y) (hS:S n=(b,true)::Sq) (hg:h.get b=some (.map ev clock))
 (hsub:∀p∈S',p∈Sq) (hnd:(hds S').Nodup) {x:Value} {v:TV} (hp:apure E af p=none) (hq:aread E af p=none) (hal:aalloc E af p=none) (he:aeff E X.base af p h=some (.val x,h.put b (.map ev1 clock'))) (hv:∀c ρ F h,VR c ρ F h v x)
 (hor:∀h',(∀t v,VR c ρ F1 h t v→VR c ρ F1 h' t v)→(∀b',b'<h.size→¬(hd h b'=b)→h'.get b'=h.get b')→(∀b cs,F1 b→h.rd b=some cs→h'.rd b=some cs)→h'.get b=some (.map ev1 clock')→(∀x∈hds S',x≠b)→OR c ρ F1 h' X.base n ((b,true)::S') y')
 (hK:K v (upd1 o1 n y') c (.eff [n])):Did E X ρ F o c af h p K:=by
 have H1:=Sh.mem
 have hbS:(b,true)∈S n:=by rw[hS];exact List.mem_cons_self
 have hnod:=K1.nod n _ hl
 rw[hS]at hnod
 obtain⟨n1,n2⟩:=List.nodup_cons.1 hnod
 have hnb:∀x∈hds S',x≠b:=fun x hx e=>by
  subst e
  obtain⟨q,hq,e⟩:=List.mem_map.1 hx
  exact n1 (List.mem_map.2 ⟨q,hsub q hq,e⟩)
 have hdb:hd h b=b:=by simp[hd,hg]
 have hget:∀x,(h.put b (.map ev1 clock')).get x=if x=b then some (.map ev1 clock')else h.get x:=fun x=>AHeap.get_put _ _ _ _
 have same:∀x,x<h.size→hd h x≠b→(h.put b (.map ev1 clock')).get x=h.get x:=fun x _ hx=>by
  rw[hget,if_neg]
  intro e;subst e;exact hx hdb
 have hds':∀x,hd (h.put b (.map ev1 clock')) x=hd h x:=fun x=>by
  by_cases e:x=b
  ·subst e;rw[hdb];unfold hd;rw[hget,if_pos rfl]
  ·unfold hd;rw[hget,if_neg e]
 have hwf:Wf (h.put b (.map ev1 clock')):=by
  have hbl:=H.wf.lt hg
  refine⟨fun x hx=>?_,fun x cs f t th hx=>?_⟩
  ·rw[AHeap.size_put]at hx
   rw[hget,if_neg (by omega)];exact H.wf.high x hx
  ·rw[hget]at hx
   split at hx
   ·cases hx
   ·exact H.wf.le _ _ _ _ _ hx
 obtain⟨M,hk⟩:=H1.set K1 (y':=y') (S0:=(b,true)::S') hl hbS (fun p hp=>by
  rw[hS]
  rcases List.mem_cons.1 hp with rfl |hp
  ·exact List.mem_cons_self
  ·exact List.mem_cons_of_mem _ (hsub p hp)) (List.nodup_cons.2 ⟨fun hx=>hnb b hx rfl,hnd⟩) (AHeap.size_put _ _ _) hwf same hds' fun hm frz=>
  hor _ hm same frz (by rw[hget,if_pos rfl]) hnb
 exact Did.eff H hp hq hal he (nx_of H Sh M hk (fun _ h=>h) (by rw[AHeap.size_put];exact Nat.le_refl _) fun b' cs' hb' hr'=>rd_same H.wf same (K1.apart n _ _ b' hl hbS (Sh.FF _ hb')) hr') (hv _ _ _ _)
  (raw_set H Sh K1 hl (mem_hds hbS) same) hK
theorem map_set (H:Mem X ρ F o c h) {F1:Nat→Prop} {o1:Ob} (Sh:ShOk X ρ c h F o F1 o1) {n kn:Nat} {es es1:List (Value×TV)} {b clock clock':Nat} {ev ev1:List MapEntry} (hl:look o1 n=some (.map kn es)) (hb:ρ n=some (.blk b)) (hg:h.get b=some (.map ev clock))
 (hE:ERs c ρ F1 h kn es1 ev1) (hst:StL ev1 clock') {x:Value} {v:TV} (hp:apure E af p=none) (hq:aread E af p=none) (hal:aalloc E af p=none) (he:aeff E X.base af p h=some (.val x,h.put b (.map ev1 clock'))) (hv:∀c ρ F h,VR c ρ F h v x)
 (hK:K v (upd1 o1 n (.map kn es1)) c (.eff [n])):Did E X ρ F o c af h p K:=by
 obtain⟨S,K1⟩:=Sh.mem.ex
 have hO:=K1.objs n _ hl
 generalize hS:S n=Sm at hO
 cases hO with
 |map hb' hg' hl' hc' hst'=>
  rw[hb]at hb';cases hb'
  exact map_setG H Sh K1 (S':=[]) hl hS hg (by simp) (by simp[hds]) hp hq hal he hv (fun h' hm same frz hgn _=>.map hb hgn hE.1 (fun i e e' q1 q2=>let⟨r1,r2,r3,r4⟩:=hE.2 i e e' q1 q2;⟨r1,r2,r3,hm _ _ r4⟩) hst) hK
end
end Go.M
namespace Go.M
open Go
section
variable {T E:Env} {X:Cx} {ρ:Gh} {F:Nat→Prop} {o:Ob} {c:Nat} {af:AF} {f:Fr} {h:AHeap} {p:Oper} {K:OK}
theorem find_pos {kd:TypeDesc} {k:Value} {n:Nat} (hk:kindOk kd k n=true):∀{es:List (Value×TV)} {es':List MapEntry} (i:Nat),ERs c ρ F h n es es'→
 (Instr.findNow kd k es' i=some none∧(∀v,putM es k v=es++[(k,v)])∧delM es k=es)∨
 ∃j x,j<es.length∧Instr.findNow kd k es' i=some (some (i+j,x))∧(∀v,putM es k v=es.set j (k,v))∧delM es k=es.eraseIdx j
 |[],es',i,H=>by rw[H.inv_nil];exact .inl ⟨rfl,fun _=>rfl,rfl⟩
 |e::es,es',i,H=>by
  obtain⟨e',m,rfl,h1,h2,h3,h4,h5⟩:=H.inv_cons
  unfold Instr.findNow
  rw[h1,sameNow_keq hk h2.2]
  cases hq:keq k e.1 with
  |true=>exact .inr ⟨0,e'.val,by simp,rfl,fun v=>by simp[putM,hq],by simp[delM,hq]⟩
  |false=>
   simp only
   rcases find_pos hk (i+1) h5 with⟨q1,q2,q3⟩|⟨j,x,q0,q1,q2,q3⟩
   ·exact .inl ⟨q1,fun v=>by simp[putM,hq,q2],by simp[delM,hq,q3]⟩
   ·exact .inr ⟨j+1,x,by simp;omega,by rw[q1];congr 3;omega,fun v=>by simp[putM,hq,q2],by simp[delM,hq,q3]⟩
theorem ERs.mono {kn c':Nat} {ρ':Gh} {F':Nat→Prop} {h':AHeap} {es:List (Value×TV)} {ev:List MapEntry} (H:ERs c ρ F h kn es ev) (hm:∀t v,VR c ρ F h t v→VR c' ρ' F' h' t v):ERs c' ρ' F' h' kn es ev:=
 ⟨H.1,fun i e e' q1 q2=>let⟨r1,r2,r3,r4⟩:=H.2 i e e' q1 q2;⟨r1,r2,r3,hm _ _ r4⟩⟩
theorem ERs.append1 {kn:Nat} {es:List (Value×TV)} {ev:List MapEntry} (H:ERs c ρ F h kn es ev) {k:Value} {v:TV} {x:Value} (hk:0<kn∧kcodeV k=kn) (hf:fzV v=true) (hv:VR c ρ F h v x) (b:Nat):ERs c ρ F h kn (es++[(k,v)]) (ev++[{key:=k,val:=x,born:=b}]):=by
 refine⟨by simp[H.1],fun i e e' q1 q2=>?_⟩
 by_cases hi:i<es.length
 ·rw[List.getElem?_append_left hi]at q1
  rw[List.getElem?_append_left (by rw[←H.1];exact hi)]at q2
  exact H.2 i e e' q1 q2
 ·rw[List.getElem?_append_right (by omega)]at q1
  rw[List.getElem?_append_right (by rw[←H.1];omega),←H.1]at q2
  have:i - es.length=0:=by
   rcases Nat.eq_zero_or_pos (i - es.length)with h0|h0
   ·exact h0
   ·rw[List.getElem?_eq_none (by simp;omega)]at q1;cases q1
  rw[this]at q1 q2
  simp at q1 q2
  subst q1;subst q2
  exact⟨rfl,hk,hf,hv⟩
theorem ERs.set {kn:Nat} {es:List (Value×TV)} {ev:List MapEntry} (H:ERs c ρ F h kn es ev) {k:Value} {v:TV} {x:Value} (hk:0<kn∧kcodeV k=kn) (hf:fzV v=true) (hv:VR c ρ F h v x) (j:Nat):ERs c ρ F h kn (es.set j (k,v)) (ev.modify j fun e=>{e with key:=k,val:=x}):=by
 refine⟨by simp[H.1],fun i e e' q1 q2=>?_⟩
 rw[List.getElem?_set]at q1
 rw[List.getElem?_modify]at q2
 by_cases e0:j=i
 ·subst e0
  rw[if_pos rfl]at q1
  split at q1
  ·cases q1
   cases hq:ev[j]? with
   |none=>rw[hq]at q2;simp at q2
   |some a=>rw[hq]at q2;simp at q2;subst q2;exact⟨rfl,hk,hf,hv⟩
  ·cases q1
 ·rw[if_neg e0]at q1
  cases hq:ev[i]? with
  |none=>rw[hq]at q2;simp at q2
  |some a=>
   rw[hq]at q2;simp[e0]at q2;subst q2
   exact H.2 i e _ q1 hq
theorem ERs.erase {kn:Nat} {es:List (Value×TV)} {ev:List MapEntry} (H:ERs c ρ F h kn es ev) (j:Nat):ERs c ρ F h kn (es.eraseIdx j) (ev.eraseIdx j):=by
 refine⟨by rw[List.length_eraseIdx,List.length_eraseIdx,H.1],fun i e e' q1 q2=>?_⟩
 rw[List.getElem?_eraseIdx]at q1 q2
 split at q1
 ·rename_i hlt;rw[if_pos hlt]at q2;exact H.2 _ _ _ q1 q2
 ·rename_i hlt;rw[if_neg hlt]at q2;exact H.2 _ _ _ q1 q2
theorem StL.append1 {ev:List MapEntry} {clock:Nat} (H:StL ev clock) {k v:Value}:StL (ev++[{key:=k,val:=v,born:=clock}]) (clock+1):=by
 refine⟨fun x hx=>?_,?_⟩
 ·rcases List.mem_append.1 hx with hx|hx
  ·have:=H.1 x hx;omega
  ·simp at hx;subst hx;simp
 ·rw[List.map_append,List.nodup_append]
  refine⟨H.2,by simp,fun a ha b hb=>?_⟩
  obtain⟨x,hx,rfl⟩:=List.mem_map.1 ha
  simp at hb;subst hb
  have:=H.1 x hx;omega
theorem StL.modify {ev:List MapEntry} {clock:Nat} (H:StL ev clock) (j:Nat) {f:MapEntry→MapEntry} (hf:∀e,(f e).born=e.born):StL (ev.modify j f) clock:=by
 have h1:(ev.modify j f).map (·.born)=ev.map (·.born):=by
  apply List.ext_getElem?
  intro i
  rw[List.getElem?_map,List.getElem?_map,List.getElem?_modify]
  cases ev[i]? with
  |none=>simp
  |some e=>by_cases h:j=i<;>simp[h,hf]
 refine⟨fun x hx=>?_,by rw[h1];exact H.2⟩
 have:x.born∈(ev.modify j f).map (·.born):=List.mem_map.2 ⟨x,hx,rfl⟩
 rw[h1]at this
 obtain⟨y,hy,e⟩:=List.mem_map.1 this
 rw[←e];exact H.1 y hy
theorem StL.erase {ev:List MapEntry} {clock:Nat} (H:StL ev clock) (j:Nat):StL (ev.eraseIdx j) clock:=
 ⟨fun x hx=>H.1 x (List.mem_of_mem_eraseIdx hx),((List.eraseIdx_sublist ev j).map _).nodup H.2⟩
theorem isAgg_rel {v:TV} {x:Value} (hv:VR c ρ F h v x) (ho:okV v=true):isAggT v=isAggV x:=by
 cases hv with
 |j=>simp[okV,okC]at ho
 |tup=>simp[okV,okC]at ho
 |sv=>simp[okV,okC]at ho
 |pv=>simp[okV,okC]at ho
 |s hp=>cases x<;>first|rfl |simp[plain1]at hp
 |tk _ h1=>cases x<;>first|rfl |simp[slV]at h1
 |wp _ h1=>cases x<;>first|rfl |simp[ptV]at h1
 |_=>rfl
theorem putM_twice {kd:TypeDesc} {k:Value} {n:Nat} {v w:TV} (hk:kindOk kd k n=true):∀{es:List (Value×TV)},putM (putM es k w) k v=putM es k v
 |[]=>by simp[putM,keq_refl hk]
 |e::es=>by
  cases hq:keq k e.1 with
  |true=>simp[putM,hq,keq_refl hk]
  |false=>simp[putM,hq,putM_twice hk]
theorem ENs.upd {base:Nat} {kd:TypeDesc} {k:Value} {n:Nat} (hk:kindOk kd k n=true) (hkn:0<n∧kcodeV k=n) {v:TV} {x:Value} (hv:CNs c ρ F h base [] (cellsT v) x.cells.toList) (ha:isAggT v=isAggV x) (b:Nat):∀{M:List (Value×TV)} {ev:List MapEntry} {S:Ft} (i:Nat),ENs c ρ F h base n S M ev→
 (Instr.findNow kd k ev i=some none∧ENs c ρ F h base n S (putM M k v) (ev++[{key:=k,val:=x,born:=b}]))∨
 ∃j y S',Instr.findNow kd k ev i=some (some (i+j,y))∧ENs c ρ F h base n S' (putM M k v) (ev.modify j fun e=>{e with key:=k,val:=x})∧S'.Sublist S
 |[],ev,S,i,H=>by
  cases H
  exact .inl ⟨rfl,ENs.cons (e:=(k,v)) (S:=[]) (S':=[]) rfl hkn ha hv .nil⟩
 |e::es,ev,S,i,H=>by
  cases H with
  |cons hkey hkd ha' hv' hl=>
   rename_i Sa Sb e' m
   unfold Instr.findNow
   rw[hkey,sameNow_keq hk hkd.2]
   cases hq:keq k e.1 with
   |true=>
    refine .inr ⟨0,e'.val,Sb,rfl,?_,List.sublist_append_right _ _⟩
    simp only[putM,hq]
    exact ENs.cons (e:=(k,v)) (S:=[]) rfl hkn ha hv hl
   |false=>
    simp only[putM,hq]
    rcases ENs.upd hk hkn hv ha b (i+1) hl with⟨q1,q2⟩|⟨j,y,S',q1,q2,q3⟩
    ·exact .inl ⟨q1,.cons hkey hkd ha' hv' q2⟩
    ·exact .inr ⟨j+1,y,Sa++S',by rw[q1];congr 3;omega,.cons hkey hkd ha' hv' q2,q3.append_left _⟩
theorem ENs.del {base:Nat} {kd:TypeDesc} {k:Value} {n:Nat} (hk:kindOk kd k n=true):∀{M:List (Value×TV)} {ev:List MapEntry} {S:Ft} (i:Nat),ENs c ρ F h base n S M ev→
 (Instr.findNow kd k ev i=some none∧delM M k=M)∨
 ∃j y S',Instr.findNow kd k ev i=some (some (i+j,y))∧ENs c ρ F h base n S' (delM M k) (ev.eraseIdx j)∧S'.Sublist S
 |[],ev,S,i,H=>by cases H;exact .inl ⟨rfl,rfl⟩
 |e::es,ev,S,i,H=>by
  cases H with
  |cons hkey hkd ha' hv' hl=>
   rename_i Sa Sb e' m
   unfold Instr.findNow
   rw[hkey,sameNow_keq hk hkd.2]
   cases hq:keq k e.1 with
   |true=>exact .inr ⟨0,e'.val,Sb,rfl,by simp only[delM,hq];exact hl,List.sublist_append_right _ _⟩
   |false=>
    simp only[delM,hq]
    rcases ENs.del hk (i+1) hl with⟨q1,q2⟩|⟨j,y,S',q1,q2,q3⟩
    ·exact .inl ⟨q1,by rw[q2]⟩
    ·exact .inr ⟨j+1,y,Sa++S',by rw[q1];congr 3;omega,.cons hkey hkd ha' hv' q2,q3.append_left _⟩
theorem delM_mem {k:Value} {e:Value×TV}:∀{es:List (Value×TV)},e∈delM es k→e∈es
 |[],h=>by simp[delM]at h
 |a::l,h=>by
  unfold delM at h
  split at h
  ·exact List.mem_cons_of_mem _ h
  ·rcases List.mem_cons.1 h with rfl |h
   ·exact List.mem_cons_self
   ·exact List.mem_cons_of_mem _ (delM_mem h)
theorem wmapUpdate_ok (L:EnvLe T E) (H:Mem X ρ F o c h) {t:TypeId} {m k v:TV} {mv kv vv:Value} (hw:wmapUpdate T t m k v o c K) (hm:VR c ρ F h m mv) (hk:VR c ρ F h k kv) (hv:VR c ρ F h v vv) (hp:apure E af p=none) (hq:aread E af p=none) (hal:aalloc E af p=none)
 (he:aeff E X.base af p h=cmapUpdate E X.base t mv kv vv h):Did E X ρ F o c af h p K:=by
 unfold wmapUpdate at hw
 split at hw
 ·rename_i kt elem hd
  split at hw
  ·rename_i kd kv' hkd
   have hkv:=hk.inv_s.1
   subst hkv
   split at hw
   ·rename_i n
    have kfac:∀{kn},kindOk kd kv kn=true→0<kn∧kcodeV kv=kn:=fun {kn} hko=>by
     unfold kindOk at hko
     simp only[Bool.and_eq_true,beq_iff,blt_iff]at hko
     exact⟨hko.1.1,hko.2⟩
    have run:∀{kn b clock:Nat} {ev ev1:List MapEntry} {cl1:Nat},kindOk kd kv kn=true→mv= .map (some b)→X.base≤b→h.get b=some (.map ev clock)→
     (∃i,Instr.findNow kd kv ev 0=some i∧(match i with|some (i,_)=>ev1=(ev.modify i fun e=>{e with key:=kv,val:=vv})∧cl1=clock|none=>ev1=ev++[{key:=kv,val:=vv,born:=clock}]∧cl1=clock+1))→
     aeff E X.base af p h=some (.val undef,h.put b (.map ev1 cl1)):=by
     rintro kn b clock ev ev1 cl1 hko rfl hbase hg ⟨i,hi,h2⟩
     obtain⟨hs1,hs2⟩:=kindOk_scalar hko
     rw[he]
     unfold cmapUpdate amapUpdate
     rw[L.desc _ _ hd]
     simp only[Option.bind_some,L.desc _ _ hkd]
     rw[ble_iff.2 hbase,hs1,hs2,hg]
     simp only[Bool.and_self,grd,hi,Option.bind_some]
     cases i with
     |none=>obtain⟨rfl,rfl⟩:=h2;rfl
     |some i=>obtain⟨rfl,rfl⟩:=h2;rfl
    -- entries that name objects
    have named:∀{S:Nat→Ft} {y:TO} {kn b clock:Nat} {ev:List MapEntry} {es M:List (Value×TV)} {Sq:Ft},MO X ρ F o c h S→look o n=some y→S n=(b,true)::Sq→ρ n=some (.blk b)→h.get b=some (.map ev clock)→StL ev clock→kindOk kd kv kn=true→okV v=true→mv= .map (some b)→
     (∀e∈es,∀t∈cellsT e.2,clT t=true)→ENs c ρ F h X.base kn Sq M ev→putM M kv v=putM es kv v→K .j (upd1 o n (.maq kn es [(kv,v)])) c (.eff [n])→Did E X ρ F o c af h p K:=by
     intro S y kn b clock ev es M Sq K0 hl hS hb hg hst hko hov hmv hcl hE hMe hw
     have hnod:=K0.nod n _ hl
     rw[hS]at hnod
     obtain⟨n1,n2⟩:=List.nodup_cons.1 hnod
     have hbase:X.base≤b:=(K0.mine n _ b hl (by rw[hS];exact List.mem_cons_self)).1
     rcases hE.upd hko (kfac hko) (CNs.ofVRs (cells_rel hv hov)) (isAgg_rel hv hov) clock 0 with⟨q1,q2⟩|⟨j,x,S',q1,q2,q3⟩
     ·rw[hMe]at q2
      exact map_setG H (.refl H) K0 hl hS hg (fun _ h=>h) n2 hp hq hal (run hko hmv hbase hg ⟨_,q1,rfl,rfl⟩) (fun _ _ _ _=>.j _) (fun h' hm same frz hgn hnb=>.maq hb hgn hcl (q2.keep (T:=fun x=>x=b) H.wf same (fun _ h=>h) frz hm hnb) hst.append1) hw
     ·rw[hMe]at q2
      exact map_setG H (.refl H) K0 hl hS hg (fun _ h=>q3.subset h) ((q3.map Prod.fst).nodup n2) hp hq hal (run (ev1:=ev.modify j fun e=>{e with key:=kv,val:=vv}) (cl1:=clock) hko hmv hbase hg ⟨_,q1,by simp,rfl⟩) (fun _ _ _ _=>.j _) (fun h' hm same frz hgn hnb=>.maq hb hgn hcl (q2.keep (T:=fun x=>x=b) H.wf same (fun _ h=>h) frz hm hnb) (hst.modify j fun _=>rfl)) hw
    split at hw
    ·rename_i kn es v' hl hfr
     split at hw
     ·rename_i hko
      have hov:okV v=true:=by
       cases v<;>simp[frzV,frz]at hfr<;>rfl
      obtain⟨F1,Sh,sv⟩:=frzV_ok H v hov
      obtain⟨hv1,hfz⟩:=sv v' vv hfr hv
      obtain⟨S,K0⟩:=H.ex
      have hO:=K0.objs n _ hl
      have hmi:=fun x hx=>K0.mine n _ x hl hx
      generalize S n=Sm at hO hmi
      cases hO with
      |map hb hg hlen hc hst=>
       rename_i b clock ev
       have hE:ERs c ρ F1 h kn es ev:=ERs.mono ⟨hlen,hc⟩ Sh.keep
       cases hm with
       |mp hb'=>
        rw[hb]at hb';cases hb'
        obtain⟨y1,k1,k2⟩:=Sh.wk n _ hl
        have:y1= .map kn es:=by cases y1<;>simp[weak]at k2;obtain⟨rfl,rfl⟩:=k2;rfl
        subst this
        have hbase:X.base≤b:=(hmi b List.mem_cons_self).1
        rcases find_pos hko 0 hE with⟨q1,q2,q3⟩|⟨j,x,q0,q1,q2,q3⟩
        ·refine map_set H Sh k1 hb hg (hE.append1 (kfac hko) hfz hv1 clock) hst.append1 hp hq hal (run hko rfl hbase hg ⟨_,q1,rfl,rfl⟩) (fun _ _ _ _=>.j _) ?_
         rw[q2]at hw;exact hw
        ·refine map_set H Sh k1 hb hg (hE.set (kfac hko) hfz hv1 j) (hst.modify j fun _=>rfl) hp hq hal (run hko rfl hbase hg ⟨_,q1,by simp,rfl⟩) (fun _ _ _ _=>.j _) ?_
         rw[q2]at hw;exact hw
     ·exact hw.elim
    ·rename_i kn es hl hfr
     split at hw
     ·rename_i hc0
      simp only[Bool.and_eq_true]at hc0
      obtain⟨hko,hov⟩:=hc0
      obtain⟨S,K0⟩:=H.ex
      have hO:=K0.objs n _ hl
      generalize hS:S n=Sm at hO
      cases hO with
      |map hb hg hlen hc hst=>
       cases hm with
       |mp hb'=>
        rw[hb]at hb';cases hb'
        have hcr:=CR.fzes (base:=X.base) hlen hc
        exact named K0 hl hS hb hg hst hko hov rfl (hcr.escl _ _ _ rfl) (ENs.ofCR hcr _ _ _ rfl) rfl hw
     ·exact hw.elim
    ·rename_i kn es hl
     split at hw
     ·rename_i hc0
      simp only[Bool.and_eq_true]at hc0
      obtain⟨hko,hov⟩:=hc0
      obtain⟨S,K0⟩:=H.ex
      have hO:=K0.objs n _ hl
      generalize hS:S n=Sm at hO
      cases hO with
      |maq hb hg hcl hc hst=>
       cases hm with
       |mp hb'=>
        rw[hb]at hb';cases hb'
        exact named K0 hl hS hb hg hst hko hov rfl hcl hc rfl hw
     ·exact hw.elim
    ·rename_i kn es k' w hl
     split at hw
     ·rename_i hc0
      simp only[Bool.and_eq_true]at hc0
      obtain⟨hko,hov⟩:=hc0
      obtain⟨rfl,hw⟩:=hw
      obtain⟨S,K0⟩:=H.ex
      have hO:=K0.objs n _ hl
      generalize hS:S n=Sm at hO
      cases hO with
      |maq hb hg hcl hc hst=>
       cases hm with
       |mp hb'=>
        rw[hb]at hb';cases hb'
        exact named K0 hl hS hb hg hst hko hov rfl hcl hc (putM_twice hko) hw
     ·exact hw.elim
    ·exact hw.elim
   ·exact hw.elim
  ·exact hw.elim
 ·exact hw.elim
theorem wdelete_ok (L:EnvLe T E) (H:Mem X ρ F o c h) {t:TypeId} {m k:TV} {mv kv:Value} (hw:wdelete T t m k o c K) (hm:VR c ρ F h m mv) (hk:VR c ρ F h k kv) (hp:apure E af p=none) (hq:aread E af p=none) (hal:aalloc E af p=none)
 (he:aeff E X.base af p h=(adelete E X.base h t mv kv).bind fun r=>some (.val r.1,r.2)):Did E X ρ F o c af h p K:=by
 have htup:∀(c:Nat) (ρ:Gh) (F:Nat→Prop) (h:AHeap),VR c ρ F h (.tup []) (.tuple #[]):=fun _ _ _ _=>.tup_of .nil
 unfold wdelete at hw
 split at hw
 ·rename_i kt elem hd
  split at hw
  ·rename_i kd kv' n hkd
   have hkv:=hk.inv_s.1
   subst hkv
   have run:∀{kn b clock:Nat} {ev ev1:List MapEntry},kindOk kd kv kn=true→mv= .map (some b)→X.base≤b→h.get b=some (.map ev clock)→(∃i,Instr.findNow kd kv ev 0=some i∧ev1=(match i with|some (i,_)=>ev.eraseIdx i|none=>ev))→aeff E X.base af p h=some (.val (.tuple #[]),h.put b (.map ev1 clock)):=by
    rintro kn b clock ev ev1 hko rfl hbase hg ⟨i,hi,rfl⟩
    obtain⟨hs1,hs2⟩:=kindOk_scalar hko
    rw[he]
    unfold adelete
    rw[L.desc _ _ hd]
    simp only[Option.bind_some,L.desc _ _ hkd]
    rw[ble_iff.2 hbase,hs1,hs2,hg]
    simp only[Bool.and_self,grd,hi,Option.bind_some]
    cases i<;>rfl
   obtain⟨S,K0⟩:=H.ex
   split at hw
   ·rename_i kn es hl
    split at hw
    ·rename_i hko
     have hO:=K0.objs n _ hl
     have hmi:=fun x hx=>K0.mine n _ x hl hx
     generalize S n=Sm at hO hmi
     cases hO with
     |map hb hg hlen hc hst=>
      rename_i b clock ev
      have hE:ERs c ρ F h kn es ev:=⟨hlen,hc⟩
      cases hm with
      |mp hb'=>
       rw[hb]at hb';cases hb'
       have hbase:X.base≤b:=(hmi b List.mem_cons_self).1
       rcases find_pos hko 0 hE with⟨q1,q2,q3⟩|⟨j,x,q0,q1,q2,q3⟩
       ·refine map_set H (.refl H) hl hb hg hE hst hp hq hal (run (ev1:=ev) hko rfl hbase hg ⟨_,q1,rfl⟩) htup ?_
        rw[q3]at hw;exact hw
       ·refine map_set H (.refl H) hl hb hg (hE.erase j) (hst.erase j) hp hq hal (run (ev1:=ev.eraseIdx j) hko rfl hbase hg ⟨_,q1,by simp⟩) htup ?_
        rw[q3]at hw;exact hw
    ·exact hw.elim
   ·rename_i kn es hl
    split at hw
    ·rename_i hko
     have hO:=K0.objs n _ hl
     have hmi:=fun x hx=>K0.mine n _ x hl hx
     have hnod:=K0.nod n _ hl
     generalize hS:S n=Sm at hO hmi hnod
     cases hO with
     |maq hb hg hcl hc hst=>
      rename_i Sq b clock ev
      cases hm with
      |mp hb'=>
       rw[hb]at hb';cases hb'
       have hbase:X.base≤b:=(hmi b List.mem_cons_self).1
       obtain⟨n1,n2⟩:=List.nodup_cons.1 hnod
       have hE:ENs c ρ F h X.base kn Sq es ev:=hc
       rcases hE.del hko 0 with⟨q1,q2⟩|⟨j,x,S',q1,q2,q3⟩
       ·rw[q2]at hw
        exact map_setG H (.refl H) K0 hl hS hg (fun _ h=>h) n2 hp hq hal (run (ev1:=ev) hko rfl hbase hg ⟨_,q1,rfl⟩) htup (fun h' hm same frz hgn hnb=>.maq hb hgn hcl (hE.keep (T:=fun x=>x=b) H.wf same (fun _ h=>h) frz hm hnb) hst) hw
       ·exact map_setG H (.refl H) K0 hl hS hg (fun _ h=>q3.subset h) ((q3.map Prod.fst).nodup n2) hp hq hal (run (ev1:=ev.eraseIdx j) hko rfl hbase hg ⟨_,q1,by simp⟩) htup (fun h' hm same frz hgn hnb=>.maq hb hgn (fun e he=>hcl e (delM_mem he)) (q2.keep (T:=fun x=>x=b) H.wf same (fun _ h=>h) frz hm hnb) (hst.erase j)) hw
    ·exact hw.elim
   ·exact hw.elim
  ·exact hw.elim
 ·exact hw.elim
theorem wclear_ok (H:Mem X ρ F o c h) {t:TypeId} {n kn:Nat} {y:TO} {mv:Value} (hl:look o n=some y) (hy:(∃es,y= .map kn es)∨∃es op,y= .maq kn es op) (hw:K (.tup []) (upd1 o n (.map kn [])) c (.eff [n])) (hm:VR c ρ F h (.mp n) mv) (hp:apure E af p=none) (hq:aread E af p=none) (hal:aalloc E af p=none)
 (hd:(E.desc t).isSome=true) (he:aeff E X.base af p h=((E.desc t).bind fun _=>aclear E X.base h t mv).bind fun r=>some (.val r.1,r.2)):Did E X ρ F o c af h p K:=by
 obtain⟨S,K0⟩:=H.ex
 have hO:=K0.objs n _ hl
 have hmi:=fun x hx=>K0.mine n _ x hl hx
 obtain⟨d,hd⟩:=Option.isSome_iff_exists.1 hd
 have main:∀{b clock:Nat} {ev:List MapEntry} {Sq:Ft},S n=(b,true)::Sq→ρ n=some (.blk b)→h.get b=some (.map ev clock)→Did E X ρ F o c af h p K:=by
  intro b clock ev Sq hS hb hg
  cases hm with
  |mp hb'=>
   rw[hb]at hb';cases hb'
   have hbase:X.base≤b:=(hmi b (by rw[hS];exact List.mem_cons_self)).1
   refine map_setG H (.refl H) K0 (S':=[]) (ev1:=[]) (clock':=clock) hl hS hg (by simp) (by simp[hds]) hp hq hal ?_ (fun _ _ _ _=>.tup_of .nil) (fun h' hm same frz hgn hnb=>.map hb hgn rfl (fun i e e' q=>by simp at q) ⟨by simp,by simp⟩) hw
   rw[he,hd]
   unfold aclear
   simp only[Option.bind_some]
   rw[ble_iff.2 hbase,hg]
   rfl
 generalize hS:S n=Sm at hO
 rcases hy with⟨es,rfl⟩|⟨es,op,rfl⟩
 ·cases hO with
  |map hb hg hlen hc hst=>exact main hS hb hg
 ·cases hO with
  |maq hb hg hcl hc hst=>exact main hS hb hg
theorem ER.take {z:Nat} {es:List (List TV)} {cs:List Value} (A:ER c ρ F h z es cs) {i:Nat} (hi:i≤es.length):ER c ρ F h z (es.take i) (cs.take (i*z)):=by
 have hle:i*z≤es.length*z:=Nat.mul_le_mul_right z hi
 refine⟨by rw[List.length_take,List.length_take,A.len,Nat.min_eq_left hi,Nat.min_eq_left hle],fun e he=>A.each e (List.mem_of_mem_take he),fun e he=>A.fz e (List.mem_of_mem_take he),fun a b e t v q1 q2 q3=>?_⟩
 rw[List.getElem?_take]at q1 q3
 split at q1
 ·split at q3
  ·exact A.cell a b e t v q1 q2 q3
  ·cases q3
 ·cases q1
theorem wclearS_ok (L:EnvLe T E) (H:Mem X ρ F o c h) {t elem:TypeId} {m i z:Nat} {zv xv:Value} {zs:List TV} {es:List (List TV)} (hd:T.desc t=some (.slice elem)) (hz:T.zero elem=some zv) (hl:look o m=some (.arr z true es)) (hzs:zcells zv=some zs)
 (hc:(zs.all fz&&Nat.beq zs.length z&&zs.all okC)=true) (hw:(es.length≤i→K (.tup []) o c (.eff [m]))∧(i<es.length→K (.tup []) (upd1 o m (.arr z true (es.take i++List.replicate (es.length - i) zs))) c (.eff [m])))
 (hx:VR c ρ F h (.sv m i) xv) (hp:apure E af p=none) (hq:aread E af p=none) (hal:aalloc E af p=none)
 (he:aeff E X.base af p h=((E.desc t).bind fun _=>aclear E X.base h t xv).bind fun r=>some (.val r.1,r.2)):Did E X ρ F o c af h p K:=by
 simp only[Bool.and_eq_true,beq_iff]at hc
 obtain⟨⟨hfz,hzl⟩,hok⟩:=hc
 obtain⟨hz',hpl⟩:=L.zero _ _ hz
 have hzr:VRs c ρ F h zs zv.cells.toList:=zcells_rel hpl hzs
 have nop:∀a cap,xv= .slice a 0 cap→(a=none∨∃b q z1,a=some ⟨b,q,some z1⟩)→es.length≤i→Did E X ρ F o c af h p K:=by
  rintro a cap rfl ha hle
  refine Did.eff H (v:=.tup []) (x:=.tuple #[]) hp hq hal ?_ (.refl H) (.tup_of .nil) (Raw.refl [m]) (hw.1 hle)
  rw[he,L.desc _ _ hd]
  rcases ha with rfl |⟨b,q,z1,rfl⟩<;>rfl
 obtain⟨S,K0⟩:=H.ex
 have hO:=K0.objs m _ hl
 generalize hS:S m=Sm at hO
 cases hx with
 |sv hn h1 ha h0=>
  cases hO with
  |nil hb hz0=>
   rcases h0 _ hb with rfl |⟨b,o',z',cap,rfl⟩
   ·exact nop _ _ rfl (.inl rfl) (Nat.zero_le _)
   ·exact nop _ _ rfl (.inr ⟨_,_,_,rfl⟩) (Nat.zero_le _)
  |arr hb hg hf htt hbf hz0 hlen' hee' hfz' hc' hF=>
   rename_i b f t0 th0 thr cs
   obtain⟨q,cap,rfl,hq'⟩:=ha _ _ _ hb
   by_cases hi:i<es.length
   ·obtain rfl:=hq' hi
    have hE:ER c ρ F h z es cs:=⟨hlen',hee',hfz',hc'⟩
    have hrd:=rd_of hf htt (cellsOf_get hg)
    have hR:=ER.replicate hzr hzl hfz (es.length - i)
    have hRl:=hR.len
    rw[List.length_replicate]at hRl
    have hiz:i*z+(es.length - i)*z=es.length*z:=by rw[←Nat.add_mul];congr 1;omega
    obtain⟨cs1,hcs1⟩:=setN_ex (n:=i*z) (l:=cs) (xs:=repeatL zv.cells.toList (es.length - i)) (by rw[hlen',hRl];omega)
    have hcs2:cs1=cs.take (i*z)++repeatL zv.cells.toList (es.length - i):=by
     rw[setN_eq hcs1,List.drop_drop,List.drop_eq_nil_of_le (by rw[hlen',hRl];omega),List.append_nil]
    have hE2:ER c ρ F h z (es.take i++List.replicate (es.length - i) zs) cs1:=by rw[hcs2];exact(hE.take (Nat.le_of_lt hi)).append hR
    have hfS:(f,true)∈S m:=by rw[hS];exact List.mem_cons_self
    have hmine:=K0.mine m _ f hl (mem_hds hfS)
    have hble:X.base≤b:=by have:=H.wf.le _ _ _ _ _ hg;omega
    have W:=wrH_ok (cs':=cs1) H.wf hg hf
    obtain⟨t',th',hg'⟩:=W.self
    have hlen2:(es.take i++List.replicate (es.length - i) zs).length=es.length:=by simp;omega
    obtain⟨M,hk⟩:=H.set K0 (y':=.arr z true (es.take i++List.replicate (es.length - i) zs)) (S0:=[(f,true)]) hl hfS (fun p hp=>by simp only[List.mem_singleton]at hp;subst hp;exact hfS) (by simp[hds]) W.size W.wf W.same W.hds fun hm _=>
     OR.arr' (by rw[hlen2];exact hb) hg' W.fam (Nat.le_refl _) hbf hz0 (hE2.mono hm) (fun h=>by cases h)
    refine Did.eff H (v:=.tup []) (x:=.tuple #[]) hp hq hal ?_ (nx_of H (.refl H) M hk (fun _ h=>h) (by rw[W.size];exact Nat.le_refl _) fun b' cs' hb' hr'=>rd_same H.wf W.same (K0.apart m _ _ b' hl hfS hb') hr') (.tup_of .nil)
     (raw_set H (.refl H) K0 hl (mem_hds hfS) W.same) (hw.2 hi)
    rw[he,L.desc _ _ hd]
    unfold aclear
    simp only[Option.bind_some]
    have hn0:Nat.beq (es.length - i) 0=false:=by
     cases hbq:Nat.beq (es.length - i) 0 with
     |false=>rfl
     |true=>have:=beq_iff.1 hbq;omega
    rw[hn0]
    simp only[cond_false,L.desc _ _ hd,Option.bind_some,hz',okC_all hok hzr,grd,hrd,hcs1,wr_of hg hf hble hbf]
   ·exact nop _ _ (by rw[show es.length - i=0 by omega]) (.inr ⟨_,_,_,rfl⟩) (by omega)
end
end Go.M
namespace Go.M
open Go
section
variable {T E:Env} {X:Cx} {ρ:Gh} {F:Nat→Prop} {o:Ob} {c:Nat} {af:AF} {f:Fr} {h:AHeap} {p:Oper} {K:OK}
theorem size_le {k bytes:Nat} (hk:k<1048576) (hb:bytes<1048576):(k+1)*(bytes+1)≤1099511627776:=by
 have h1:(k+1)*(bytes+1)≤1048576*1048576:=Nat.mul_le_mul hk hb
 exact h1
theorem Mem.newNilG (H:Mem X ρ F o c h) {z:Nat} {y:TO} (hor:∀(c:Nat) (ρ:Gh) (F:Nat→Prop) (n:Nat),ρ n=some (.nil z)→OR c ρ F h X.base n [] y):Mem X (updG ρ c (some (.nil z))) F ((c,y)::o) (c+1) h∧∀t v,VR c ρ F h t v→VR (c+1) (updG ρ c (some (.nil z))) F h t v:=by
 obtain⟨S,K⟩:=H.ex
 refine H.change K (fun _=>False) c y [] (Nat.le_refl _) H.wf (fun _ hf=>hf.elim) (fun _ _ _=>rfl) (fun _ _ _ hr=>hr) (fun _ _=>rfl) (fun _ hb=>hb) (fun _ hb hn=>absurd hb hn) (by omega) (H.upd_A _) (H.upd_B _) (H.upd_N _)
  (fun m y' hne hl=>?_) (fun y' hl=>?_) (hor _ _ _ _ (updG_self _ _ _)) (by simp[hds]) (by simp[hds]) (by simp)
 ·rw[look_cons,if_neg (fun e=>hne e.symm)]at hl
  exact⟨hl,updG_ne _ _ hne,fun _ _ hf=>hf.elim⟩
 ·rw[look_cons,if_pos rfl,Option.some.injEq]at hl;exact hl.symm
theorem Mem.moveG (H:Mem X ρ F o c h) {S:Nat→Ft} (K:MO X ρ F o c h S) {m z l b0:Nat} {y y':TO} {S0:Ft} {h':AHeap} (hl:look o m=some y) (hb:ρ m=some (.arr b0 z l)) (hsz:h.size≤h'.size) (hwf:Wf h') (same:∀b,b<h.size→h'.get b=h.get b)
 (frz:∀b cs,F b→h.rd b=some cs→h'.rd b=some cs) (hsub:∀p∈S0,p∈S m∨p.1=h.size) (hnd:(hds S0).Nodup) (hlt:∀x∈hds S0,x<h'.size) (fl:Bool) (hfl:fl=true→(h'.rd h.size).isSome=true∧hd h' h.size=h.size∧∀x,(x,true)∈S0→h.size≠x) {q:Loc} (_:∀b,q≠ .blk b)
 (hor:(∀t v,VR c ρ F h t v→VR (c+1) (updG (updG ρ m none) c (some q)) (fun x=>F x∨(fl=true∧x=h.size)) h' t v)→OR (c+1) (updG (updG ρ m none) c (some q)) (fun x=>F x∨(fl=true∧x=h.size)) h' X.base c S0 y'):
 Mem X (updG (updG ρ m none) c (some q)) (fun x=>F x∨(fl=true∧x=h.size)) ((c,y')::drop1 o m) (c+1) h'∧∀t v,VR c ρ F h t v→VR (c+1) (updG (updG ρ m none) c (some q)) (fun x=>F x∨(fl=true∧x=h.size)) h' t v:=by
 have hm:=H.lt hl
 have hρ:∀n,n≠m→n≠c→updG (updG ρ m none) c (some q) n=ρ n:=fun n h1 h2=>by rw[updG_ne _ _ h2,updG_ne _ _ h1]
 have hA:∀n l',n<c→updG (updG ρ m none) c (some q) n=some l'→ρ n=some l':=fun n l' hn h1=>by
  by_cases e:n=m
  ·subst e;rw[updG_ne _ _ (by omega),updG_self]at h1;cases h1
  ·rwa [hρ n e (by omega)]at h1
 have hB:∀n b',ρ n=some (.blk b')→updG (updG ρ m none) c (some q) n=some (.blk b'):=fun n b' hn=>by
  have:=H.names _ _ hn
  by_cases e:n=m
  ·subst e;rw[hb]at hn;cases hn
  ·rwa [hρ n e (by omega)]
 have hmono:∀t v,VR c ρ F h t v→VR (c+1) (updG (updG ρ m none) c (some q)) (fun x=>F x∨(fl=true∧x=h.size)) h' t v:=fun t v=>VR.mono (by omega) hA hB (fun _ hb=>.inl hb) frz
 have hdrop:∀n y1,n≠c→look ((c,y')::drop1 o m) n=some y1→n≠m∧look o n=some y1:=fun n y hne hy=>by
  rw[look_cons,if_neg (fun e=>hne e.symm),look_drop1]at hy
  by_cases e:n=m
  ·rw[if_pos e]at hy;cases hy
  ·rw[if_neg e]at hy;exact⟨e,hy⟩
 have hin:∀x∈hds S0,x∈hds (S m)∨x=h.size:=fun x hx=>by
  obtain⟨p,hp,rfl⟩:=List.mem_map.1 hx
  rcases hsub p hp with h1|e
  ·exact .inl (List.mem_map.2 ⟨p,h1,rfl⟩)
  ·exact .inr e
 refine H.change K (fun _=>False) c y' S0 hsz hwf (fun _ hf=>hf.elim) (fun b hb _=>same b hb) frz (fun b hb=>by unfold hd;rw[same b hb]) (fun _ hb=>.inl hb) (fun b hb hn=>?_) (by omega) hA hB (fun n l' hn=>?_)
  (fun n y' hne hy=>?_) (fun y' hy=>?_) (hor hmono) hnd (fun x hx=>?_) fun x b hx hb=>?_
 ·rcases hb with hb|⟨hf,rfl⟩
  ·exact absurd hb hn
  ·obtain⟨g1,g2,g3⟩:=hfl hf
   refine⟨g1,fun n y1 x hne hy hx e=>?_,fun x hx=>by rw[g2];exact g3 x hx,.inr (by rw[g2];exact H.evo.size)⟩
   rw[g2]at e;subst e
   have:=(K.mine n y1 _ (hdrop n y1 hne hy).2 (mem_hds hx)).2.1
   omega
 ·by_cases e:n=c
  ·omega
  ·by_cases e2:n=m
   ·omega
   ·rw[hρ n e2 e]at hn;have:=H.names _ _ hn;omega
 ·obtain⟨h1,h2⟩:=hdrop n y' hne hy
  exact⟨h2,hρ n h1 hne,fun _ _ hf=>hf.elim⟩
 ·rw[look_cons,if_pos rfl,Option.some.injEq]at hy;exact hy.symm
 ·rcases hin x hx with h1|rfl
  ·obtain⟨q1,q2,q3⟩:=K.mine m y x hl h1
   refine⟨q1,hlt x hx,q3,fun n y1 hne hy hh=>?_⟩
   obtain⟨h3,h4⟩:=hdrop n y1 hne hy
   exact h3 (K.heads n m y1 _ _ h4 hl hh h1)
  ·refine⟨H.bsz,hlt _ hx,.inr H.evo.size,fun n y1 hne hy hh=>?_⟩
   obtain⟨h3,h4⟩:=hdrop n y1 hne hy
   have:=(K.mine n y1 _ h4 hh).2.1
   omega
 ·rcases hsub _ hx with h1|e
  ·exact K.apart m y x b hl h1 hb
  ·simp only at e
   subst e
   have:=H.wf.hd_le b
   have:=H.Flt hb
   omega
theorem OR.named {base m n c':Nat} {ρ':Gh} {S:Ft} {y:TO} (W:Wf h) (H:OR c ρ F h base m S y) (hm:∀t v,VR c ρ F h t v→VR c' ρ' F h t v) (hρ:ρ' n=ρ m):OR c' ρ' F h base n S y:=by
 have kk:∀{S:Ft} {l:List TV} {vs:List Value},CNs c ρ F h base S l vs→CNs c' ρ' F h base S l vs:=fun hc=>hc.keep (T:=fun _=>False) W (fun _ _ _=>rfl) (fun _ h=>h) (fun _ _ _ h=>h) hm (fun _ _ hf=>hf.elim)
 cases H with
 |cells hb hg ht hc=>exact .cells (hρ.trans hb) hg ht (kk hc)
 |map hb hg hl hc hst=>exact .map (hρ.trans hb) hg hl (fun i e e' h1 h2=>let⟨q1,q2,q3,q4⟩:=hc i e e' h1 h2;⟨q1,q2,q3,hm _ _ q4⟩) hst
 |nil hb hz=>exact .nil (hρ.trans hb) hz
 |arr hb hg hf ht hbf hz hl he hfz hc hF=>exact .arr (hρ.trans hb) hg hf ht hbf hz hl he hfz (fun i j e t v q1 q2 q3=>hm _ _ (hc i j e t v q1 q2 q3)) hF
 |qnil hb hz=>exact .qnil (hρ.trans hb) hz
 |arq hb hg hf ht hbf hz hl he hcl hop hc=>exact .arq (hρ.trans hb) hg hf ht hbf hz hl he hcl hop (kk hc)
 |maq hb hg hcl hc hst=>exact .maq (hρ.trans hb) hg hcl (hc.keep (T:=fun _=>False) W (fun _ _ _=>rfl) (fun _ h=>h) (fun _ _ _ h=>h) hm (fun _ _ hf=>hf.elim)) hst
 |bag hb hg=>exact .bag (hρ.trans hb) hg
theorem Mem.rename (H:Mem X ρ F o c h) {m z:Nat} {y:TO} (hl:look o m=some y) {b l:Nat} (hb:ρ m=some (.arr b z l)):
 Mem X (updG (updG ρ m none) c (some (.arr b z l))) F ((c,y)::drop1 o m) (c+1) h∧∀t v,VR c ρ F h t v→VR (c+1) (updG (updG ρ m none) c (some (.arr b z l))) F h t v:=by
 obtain⟨S,K⟩:=H.ex
 have e:(fun x=>F x∨(false=true∧x=h.size))=F:=by funext x;simp
 have:=H.moveG K (S0:=S m) (y':=y) (q:=.arr b z l) hl hb (Nat.le_refl _) H.wf (fun _ _=>rfl) (fun _ _ _ h=>h) (fun p hp=>.inl hp) (K.nod m y hl) (fun x hx=>(K.mine m y x hl hx).2.1) false (fun h=>by cases h) (by simp) fun hm=>by
  rw[e]at hm ⊢
  exact(K.objs m y hl).named H.wf hm ((updG_self _ _ _).trans hb.symm)
 rwa [e]at this
theorem content_rel (H:Mem X ρ F o c h) {x:TV} {zx n:Nat} {xs:List (List TV)} {op:List (Nat×List TV)} (he:esQ o x=some (zx,xs,op)) (hz:zx=n∨zx=0∧op=[]) (hop:∀p∈op,p.2.all plainC=true) {xv:Value} (hx:VR c ρ F h x xv):
 lenV xv=some xs.length∧(∀p∈op,p.1<xs.length∧p.2.length=n)∧(∀e∈xs,∀t∈e,fz t=true)∧(xs=[]∨∃new,firstV h n xs.length xv=some new∧(op=[]→ER c ρ F h n xs new)∧new.length=xs.length*n∧(∀e∈xs,e.length=n)∧VRs c ρ F h (apOp xs op).flatten new):=by
 have done:∀{xs:List (List TV)} {new:List Value},ER c ρ F h n xs new→firstV h n xs.length xv=some new→lenV xv=some xs.length→lenV xv=some xs.length∧(∀p∈([]:List (Nat×List TV)),p.1<xs.length∧p.2.length=n)∧(∀e∈xs,∀t∈e,fz t=true)∧(xs=[]∨∃new,firstV h n xs.length xv=some new∧(([]:List (Nat×List TV))=[]→ER c ρ F h n xs new)∧new.length=xs.length*n∧(∀e∈xs,e.length=n)∧VRs c ρ F h (apOp xs []).flatten new):=
  fun E h1 h2=>⟨h2,by simp,E.fz,.inr ⟨_,h1,fun _=>E,E.len,E.each,VRs_flatten E.len E.each E.cell⟩⟩
 unfold esQ at he
 split at he
 ·rename_i m
  split at he
  ·rename_i z w es hl
   cases he
   obtain⟨Sm,hO⟩:=H.objs hl
   cases hx with
   |tk hn h1c ha h0=>
    cases hO with
    |nil hb hz'=>
     rcases h0 _ hb with rfl |⟨b,o',cs,q1,q2,q3,q4,rfl⟩
     ·exact⟨rfl,by simp,by simp,.inl rfl⟩
     ·exact⟨rfl,by simp,by simp,.inl rfl⟩
    |arr hb hg hf ht hbf hz' hlen he hfz hc hF=>
     rename_i b f t0 th0 thr cs
     obtain⟨cap,h1,rfl⟩:=ha _ _ _ hb
     have hzn:zx=n:=by omega
     subst hzn
     refine done ⟨hlen,he,hfz,hc⟩ ?_ rfl
     simp only[firstV,M.readCells,rd_of hf ht (cellsOf_get hg),Option.bind_some,List.drop_zero,takeN_some]
     rw[←hlen];simp
  ·rename_i z es op' hl
   split at he
   ·rename_i hall
    cases he
    obtain⟨Sm,hO⟩:=H.objs hl
    have hfz:∀e∈xs,∀t∈e,fz t=true:=fun e he t ht=>List.all_eq_true.1 (List.all_eq_true.1 hall e he) t ht
    cases hx with
    |tk hn h1c ha h0=>
     cases hO with
     |qnil hb hz'=>
      rcases h0 _ hb with rfl |⟨b,o',cs,q1,q2,q3,q4,rfl⟩
      ·exact⟨rfl,by simp,by simp,.inl rfl⟩
      ·exact⟨rfl,by simp,by simp,.inl rfl⟩
     |arq hb hg hf ht hbf hz' hlen he hcl hop' hc=>
      rename_i b f t0 th0 thr cs
      obtain⟨cap,h1,rfl⟩:=ha _ _ _ hb
      have hzn:zx=n:=by omega
      subst hzn
      have hpl:(apOp xs op).flatten.all plainC=true:=by
       rw[List.all_eq_true]
       intro t ht
       obtain⟨e,h1,h2⟩:=List.mem_flatten.1 ht
       have key:∀(op:List (Nat×List TV)),(∀p∈op,p.2.all plainC=true)→e∈apOp xs op→plainC t=true:=by
        intro op
        induction op with
        |nil=>intro _ h1;have:=hfz e h1 t h2;cases t<;>first|rfl |simp[fz]at this
        |cons p l ih=>
         intro hop h1
         rcases List.mem_or_eq_of_mem_set h1 with h3|rfl
         ·exact ih (fun q hq=>hop q (List.mem_cons_of_mem _ hq)) h3
         ·exact List.all_eq_true.1 (hop p List.mem_cons_self) t h2
       exact key op hop h1
      obtain⟨hV,_⟩:=hc.vrs (fun t v hv hf=>hv.fzmono hf) hpl
      refine⟨rfl,hop',hfz,.inr ⟨cs,?_,fun e=>?_,hlen,he,hV⟩⟩
      ·simp only[firstV,M.readCells,rd_of hf ht (cellsOf_get hg),Option.bind_some,List.drop_zero,takeN_some]
       rw[←hlen];simp
      ·subst e
       refine⟨hlen,he,hfz,fun i j e t v q1 q2 q3=>?_⟩
       obtain⟨f1,f2⟩:=flatten_row he q1
       refine hV.2 (i*zx+j) t v ?_ q3
       show xs.flatten[i*zx+j]? =some t
       have hj:j<zx:=by rw[←he e (List.mem_of_getElem? q1)];exact(List.getElem?_eq_some_iff.1 q2).1
       rw[←f1,List.getElem?_take,if_pos hj,List.getElem?_drop]at q2
       exact q2
   ·cases he
  ·cases he
 ·cases he
  cases hx with
  |nil h1=>subst h1;exact⟨rfl,by simp,by simp,.inl rfl⟩
  |sl q1 q2 q3 q4 q5 q6 q7 q8 q9 q10=>
   rename_i b oo len cap cs
   have hzn:zx=n:=by omega
   subst hzn
   refine done (new:=(cs.drop oo).take (xs.length*zx)) ⟨by simp;rw[←q4]at q7;omega,q8,q9,fun i j e t v r1 r2 r3=>?_⟩ ?_ (by simp[lenV,q4])
   ·rw[List.getElem?_take]at r3
    split at r3
    ·rw[List.getElem?_drop]at r3
     exact q10 i j e t v r1 r2 (by rw[←r3];congr 1;omega)
    ·cases r3
   ·simp only[firstV,M.readCells,q2,Option.bind_some,takeN_some,and_true,List.length_drop]
    rw[←q4]at q7;omega
 ·cases he
theorem ER.oneC {z:Nat} {es:List (List TV)} {cs:List Value} (A:ER c ρ F h z es cs) (hz:0<z):cs.all M.oneC=true:=by
 rw[List.all_eq_true]
 intro v hv
 obtain⟨k,hk⟩:=List.getElem?_of_mem hv
 have hkl:k<cs.length:=(List.getElem?_eq_some_iff.1 hk).1
 rw[A.len]at hkl
 have hi:k / z<es.length:=by
  rw[Nat.div_lt_iff_lt_mul hz];exact hkl
 obtain⟨e,he⟩:∃e,es[k / z]? =some e:=⟨_,List.getElem?_eq_getElem hi⟩
 have hel:=A.each e (List.mem_of_getElem? he)
 have hj:k % z<e.length:=by rw[hel];exact Nat.mod_lt _ hz
 obtain⟨t,ht⟩:∃t,e[k % z]? =some t:=⟨_,List.getElem?_eq_getElem hj⟩
 have hkk:k / z*z+k % z=k:=by rw[Nat.mul_comm];exact Nat.div_add_mod k z
 have hvr:=A.cell (k / z) (k % z) e t v he ht (by rw[hkk];exact hk)
 have hfz:=A.fz e (List.mem_of_getElem? he) t (List.mem_of_getElem? ht)
 have hoc:okC t=true:=by
  cases t<;>simp[M.fz]at hfz<;>rfl
 exact okC_one hoc hvr
structure AppT (E:Env) (st xt elem n bytes:Nat):Prop where
 sd:E.desc st=some (.slice elem)
 xd:∃e,E.desc xt=some (.slice e)
 size:E.size elem=some n
 bytes:E.bytes elem=some bytes
 zero:∃z,E.zero elem=some z∧z.cells.size=n
theorem app_none {base st xt elem n bytes:Nat} (A:AppT E st xt elem n bytes) {s x:Value} (hs:slV s=true) (hs0:∀l k,s= .slice none l k→l=0∧k=0) (hs1:∀b oo sp l k,s= .slice (some ⟨b,oo,sp⟩) l k→sp.isSome) (hx:lenV x=some 0):aappend E base h st xt s x=some (s,h):=by
 obtain⟨e,hxd⟩:=A.xd
 obtain⟨z,hz1,hz2⟩:=A.zero
 unfold aappend
 rw[A.sd,hxd]
 simp only[Option.bind_some,A.size,A.bytes,hz1,hx]
 simp only[isIntT,hz2,grd]
 cases s<;>simp[slV]at hs
 rename_i a l k
 cases a with
 |none=>obtain⟨rfl,rfl⟩:=hs0 l k rfl;simp
 |some a=>
  obtain⟨b,oo,sp⟩:=a
  have:=hs1 b oo sp l k rfl
  cases sp with
  |none=>simp at this
  |some q=>simp
theorem app_nil {base st xt elem n bytes len:Nat} (A:AppT E st xt elem n bytes) {x:Value} {new:List Value} (hx:lenV x=some len) (hl:len≠0) (hb:(len+1)*(bytes+1)≤1099511627776) (hf:firstV h n len x=some new) (hn:new.length=len*n):
 aappend E base h st xt (.slice none 0 0) x=some (fresh h new n len):=by
 obtain⟨e,hxd⟩:=A.xd
 obtain⟨z,hz1,hz2⟩:=A.zero
 unfold aappend
 rw[A.sd,hxd]
 simp only[Option.bind_some,A.size,A.bytes,hz1,hx]
 simp only[isIntT,hz2,grd]
 simp[nbeq,hl,ble_iff.2 hb,hf,hn]
theorem app_full {base st xt elem n bytes len b oo sl:Nat} (A:AppT E st xt elem n bytes) {x:Value} {old new:List Value} (hx:lenV x=some len) (hl:len≠0) (hb:(sl+len+1)*(bytes+1)≤1099511627776) (hf:firstV h n len x=some new) (hn:new.length=len*n)
 (ho:M.readCells h b oo (sl*n)=some old):aappend E base h st xt (.slice (some ⟨b,oo,some n⟩) sl sl) x=some (fresh h (old++new) n (sl+len)):=by
 obtain⟨e,hxd⟩:=A.xd
 obtain⟨z,hz1,hz2⟩:=A.zero
 unfold aappend
 rw[A.sd,hxd]
 simp only[Option.bind_some,A.size,A.bytes,hz1,hx]
 simp only[isIntT,hz2,grd]
 simp[nbeq,hl,ble_iff.2 hb,hf,hn,ho]
theorem app_ext {base st xt elem n bytes len b sl cap f thr:Nat} (A:AppT E st xt elem n bytes) {x:Value} {old new cs:List Value} (hx:lenV x=some len) (hl:len≠0) (hb:(sl+len+1)*(bytes+1)≤1099511627776) (hf:firstV h n len x=some new) (hn:new.length=len*n)
 (ho:M.readCells h b 0 (sl*n)=some old) (hcap:cap≠sl) (hc:h.cellsOf b=some cs) (hfam:h.fam b=some (f,b,thr)) (hbf:base≤f) (hone:new.all oneC=true):
 aappend E base h st xt (.slice (some ⟨b,0,some n⟩) sl cap) x=some (.slice (some ⟨h.size,0,some n⟩) (sl+len) (sl+len+1),extH h f (bif Nat.beq (sl*n) cs.length then thr else h.size) (old++new)):=by
 obtain⟨e,hxd⟩:=A.xd
 obtain⟨z,hz1,hz2⟩:=A.zero
 unfold aappend
 rw[A.sd,hxd]
 simp only[Option.bind_some,A.size,A.bytes,hz1,hx]
 simp only[isIntT,hz2,grd]
 have h1:new.all oneC=true:=hone
 simp[nbeq,hl,ble_iff.2 hb,hf,hn,ho,hcap,hc,hfam,ble_iff.2 hbf,h1]
 rfl
theorem Mem.flag {n:Nat} {xs:List (List TV)} {o1:Ob} (H:Mem X ρ F ((c,.arr n true xs)::o1) (c+1) h) (w:Bool):∃F',Mem X ρ F' ((c,.arr n w xs)::o1) (c+1) h∧(∀t v,VR (c+1) ρ F h t v→VR (c+1) ρ F' h t v)∧∀b,F b→F' b:=by
 cases w with
 |true=>exact⟨F,H,fun _ _ h=>h,fun _ h=>h⟩
 |false=>
  obtain⟨F',h1,h2,h3,_⟩:=H.share c
  refine⟨F',h1.less fun m y hl=>?_,h2,h3⟩
  have:shareO ((c,TO.arr n true xs)::o1) c=upd1 ((c,TO.arr n true xs)::o1) c (.arr n false xs):=by
   unfold shareO;rw[look_cons,if_pos rfl]
  rw[this,look_upd1]
  rw[look_cons]at hl
  by_cases e:m=c
  ·subst e
   rw[if_pos rfl,look_cons,if_pos rfl]
   rw[if_pos rfl]at hl
   simpa using hl
  ·rw[if_neg e,look_cons,if_neg (fun e2=>e e2.symm)]
   rwa [if_neg (fun e2=>e e2.symm)]at hl
theorem raw_drop (H:Mem X ρ F o c h) {m:Nat} {y:TO} {l:Option Loc}:∀n yn,look o n=some yn→n∉[m]→(∃y',look ((c,y)::drop1 o m) n=some y')∧updG (updG ρ m none) c l n=ρ n:=by
 intro n yn hn hne
 have hne':n≠m:=by simpa using hne
 have:=H.lt hn
 exact⟨⟨yn,by rw[look_cons,if_neg (by omega),look_drop1,if_neg hne'];exact hn⟩,by rw[updG_ne _ _ (by omega),updG_ne _ _ hne']⟩
theorem app_ap {xs:List (List TV)}:∀{op:List (Nat×List TV)} {es:List (List TV)},(∀p∈op,p.1<es.length)→apOp (es++xs) op=apOp es op++xs∧(apOp es op).length=es.length
 |[],_,_=>⟨rfl,rfl⟩
 |p::l,es,h=>by
  obtain⟨a,b⟩:=app_ap (xs:=xs) (op:=l) (es:=es) fun q hq=>h q (List.mem_cons_of_mem _ hq)
  have:=h p List.mem_cons_self
  exact⟨by rw[apOp,apOp,a,List.set_append_left _ _ (by omega)],by rw[apOp,List.length_set,b]⟩
theorem cons_ap {es xs:List (List TV)} {q:Nat×List TV} {op:List (Nat×List TV)} (h:∀p∈op,p.1<es.length):apOp (es++xs) ((es.length+q.1,q.2)::op)=apOp es op++apOp xs [q]:=by
 obtain⟨a,b⟩:=app_ap (xs:=xs) h
 rw[apOp,a,List.set_append_right _ _ (by omega),b]
 simp[apOp]
theorem VRs.oneC' {l:List TV} {m:List Value} (H:VRs c ρ F h l m) (ho:∀t∈l,okC t=true):m.all M.oneC=true:=okC_all (List.all_eq_true.2 ho) H
theorem app_empty (H:Mem X ρ F o c h) {st xt elem:TypeId} {n bytes:Nat} {xs:List (List TV)} {op:List (Nat×List TV)} {sv xv:Value} {F1:Nat→Prop} {o1:Ob} {ρ1:Gh} {y1 y2:TO} {ns:List Nat} (A:AppT E st xt elem n bytes) (hn0:0<n) (hlen:lenV xv=some xs.length)
 (hcont:xs=[]∨∃new,firstV h n xs.length xv=some new∧(op=[]→ER c ρ F h n xs new)∧new.length=xs.length*n∧(∀e∈xs,e.length=n)∧VRs c ρ F h (apOp xs op).flatten new)
 (fin:∀v h',aappend E X.base h st xt sv xv=some (v,h')→aeff E X.base af p h=some (.val v,h')) (hp:apure E af p=none) (hq:aread E af p=none) (hal:aalloc E af p=none)
 (M1:Mem X ρ1 F1 o1 c h) (k1:∀t v,VR c ρ F h t v→VR c ρ1 F1 h t v) (f1:∀b,F b→F1 b) (w1:∀m y,look o m=some y→m∉ns→(∃y',look o1 m=some y')∧ρ1 m=ρ m)
 (hsv:sv= .slice none 0 0∨∃b oo cs,F b∧h.rd b=some cs∧oo≤cs.length∧sv= .slice (some ⟨b,oo,some n⟩) 0 0) (hbd:(xs.length+1)*(bytes+1)≤1099511627776)
 (hnil:xs=[]→∀(c:Nat) (ρ:Gh) (F:Nat→Prop) (m:Nat),ρ m=some (.nil n)→OR c ρ F h X.base m [] y1)
 (hnew:∀new,(op=[]→ER c ρ1 F1 h n xs new)→new.length=xs.length*n→(∀e∈xs,e.length=n)→VRs c ρ1 F1 h (apOp xs op).flatten new→Mem X (updG ρ1 c (some (.arr h.size n xs.length))) F1 ((c,y1)::o1) (c+1) (h.push (.cells new h.size h.size 0))∧∀t v,VR c ρ1 F1 h t v→VR (c+1) (updG ρ1 c (some (.arr h.size n xs.length))) F1 (h.push (.cells new h.size h.size 0)) t v)
 (fl:∀{ρ1:Gh} {F1:Nat→Prop} {h1:AHeap},Mem X ρ1 F1 ((c,y1)::o1) (c+1) h1→∃F',Mem X ρ1 F' ((c,y2)::o1) (c+1) h1∧(∀t v,VR (c+1) ρ1 F1 h1 t v→VR (c+1) ρ1 F' h1 t v)∧∀b,F1 b→F' b)
 (hK:K (.tk c) ((c,y2)::o1) (c+1) (.eff ns)):Did E X ρ F o c af h p K:=by
 have cs0:∀m y,look o m=some y→m≠c:=fun m y hl=>by have:=H.lt hl;omega
 by_cases hx0:xs.length=0
 ·have hxe:xs=[]:=List.length_eq_zero_iff.1 hx0
  obtain⟨M2,k2⟩:=M1.newNilG (y:=y1) (z:=n) (hnil hxe)
  obtain⟨F3,M3,k3,f3⟩:=fl M2
  have hap:aappend E X.base h st xt sv xv=some (sv,h):=by
   refine app_none A ?_ ?_ ?_ (by rw[hlen,hx0])
   ·rcases hsv with rfl |⟨b,oo,cs,_,_,_,rfl⟩<;>rfl
   ·rintro l k e;rcases hsv with rfl |⟨b,oo,cs,_,_,_,rfl⟩<;>cases e;exact⟨rfl,rfl⟩
   ·rintro b oo sp l k e;rcases hsv with rfl |⟨b,oo,cs,_,_,_,rfl⟩<;>cases e;rfl
  refine Did.eff H hp hq hal (fin _ _ hap) ⟨M3,fun t x hx=>k3 t x (k2 t x (k1 t x hx)),Nat.le_refl _,fun b hb=>f3 b (f1 b hb),fun _ _ _ hr=>hr⟩ ?_ (fun m y hl hm=>⟨?_,?_,fun b _=>⟨rfl,fun _ hr=>hr⟩⟩) hK
  ·refine .tk (by omega) (by rcases hsv with rfl |⟨b,oo,cs,_,_,_,rfl⟩<;>rfl) (fun b z len hx=>?_) (fun z hx=>?_)
   ·rw[updG_self]at hx;cases hx
   ·rw[updG_self]at hx;cases hx
    rcases hsv with rfl |⟨b,oo,cs,q1,q2,q3,rfl⟩
    ·exact .inl rfl
    ·exact .inr ⟨b,oo,cs,f3 _ (f1 _ q1),q2,hn0,q3,rfl⟩
  ·rw[look_cons,if_neg (cs0 m y hl).symm];exact(w1 m y hl hm).1
  ·rw[updG_ne _ _ (cs0 m y hl)];exact(w1 m y hl hm).2
 ·rcases hcont with e|⟨new,hnw,hE,hnl,hez,hV⟩
  ·subst e;simp at hx0
  ·obtain⟨M2,k2⟩:=hnew new (fun e=>(hE e).mono k1) hnl hez (hV.mono' k1)
   obtain⟨F3,M3,k3,f3⟩:=fl M2
   have hap:aappend E X.base h st xt sv xv=some (fresh h new n xs.length):=by
    rcases hsv with rfl |⟨b,oo,cs,_,q2,q3,rfl⟩
    ·exact app_nil A hlen hx0 hbd hnw hnl
    ·have:=app_full (base:=X.base) (sl:=0) (old:=[]) (b:=b) (oo:=oo) A hlen hx0 (by simpa using hbd) hnw hnl (by simp[M.readCells,q2,takeN])
     simpa using this
   refine Did.eff H hp hq hal (fin _ _ hap) ⟨M3,fun t x hx=>k3 t x (k2 t x (k1 t x hx)),by show h.size≤h.size+1;omega,fun b hb=>f3 b (f1 b hb),fun b cs hb hr=>(rd_push H.wf.le _ (H.Flt hb)).trans hr⟩ ?_ (fun m y hl hm=>⟨?_,?_,fun b hb=>?_⟩) hK
   ·refine .tk (by omega) rfl (fun b z len hx=>?_) (fun z hx=>?_)
    ·rw[updG_self]at hx;cases hx;exact⟨_,by omega,rfl⟩
    ·rw[updG_self]at hx;cases hx
   ·rw[look_cons,if_neg (cs0 m y hl).symm];exact(w1 m y hl hm).1
   ·rw[updG_ne _ _ (cs0 m y hl)];exact(w1 m y hl hm).2
   ·have:=H.atB_lt hl hb
    exact⟨by rw[AHeap.get_push,if_neg (by omega)],fun cs hr=>by rw[rd_push H.wf.le _ this];exact hr⟩
theorem app_tkG (H:Mem X ρ F o c h) {st xt elem:TypeId} {z bytes:Nat} {xs:List (List TV)} {xv:Value} {S:Nat→Ft} (K0:MO X ρ F o c h S) {m b f t0 th0 thr len cap l0:Nat} {w:Bool} {y y2:TO} {Sq:Ft} {cs new:List Value} (A:AppT E st xt elem z bytes) (hlen:lenV xv=some xs.length) (hx0:xs.length≠0)
 (fin:∀v h',aappend E X.base h st xt (.slice (some ⟨b,0,some z⟩) len cap) xv=some (v,h')→aeff E X.base af p h=some (.val v,h')) (hp:apure E af p=none) (hq:aread E af p=none) (hal:aalloc E af p=none)
 (hl:look o m=some y) (hS:S m=(f,w)::Sq) (hb:ρ m=some (.arr b z l0)) (hg:h.get b=some (.cells cs f t0 th0)) (hf:h.fam b=some (f,b,thr)) (ht:thr≤b) (hbf:X.base≤f) (_:0<z) (hlc:len*z≤cs.length) (hlw:cs.length=len*z∨w=true) (hcap:len≤cap)
 (hbd:(len+xs.length+1)*(bytes+1)≤1099511627776) (hnw:firstV h z xs.length xv=some new) (hnl:new.length=xs.length*z) (hone:new.all oneC=true) (hw:w=true∨Sq=[])
 (hor:∀{c':Nat} {ρ':Gh} {F':Nat→Prop} {h':AHeap} {b' f' t1 th1 thr1:Nat} {T:Nat→Prop},(∀t v,VR c ρ F h t v→VR c' ρ' F' h' t v)→(∀b,F b→F' b)→(∀b cs,F b→h.rd b=some cs→h'.rd b=some cs)→(∀b,b<h.size→¬T (hd h b)→h'.get b=h.get b)→(∀x∈hds Sq,¬T x)→
  ρ' c=some (.arr b' z (len+xs.length))→h'.get b'=some (.cells (cs.take (len*z)++new) f' t1 th1)→h'.fam b'=some (f',b',thr1)→thr1≤b'→X.base≤f'→(w=false→F' b')→OR c' ρ' F' h' X.base c ((f',w)::Sq) y2)
 (hK:K (.tk c) ((c,y2)::drop1 o m) (c+1) (.eff [m])):Did E X ρ F o c af h p K:=by
 have hrd:=rd_of hf ht (cellsOf_get hg)
 have hro:M.readCells h b 0 (len*z)=some (cs.take (len*z)):=by
  simp only[M.readCells,hrd,Option.bind_some,List.drop_zero,takeN_some]
  simp[hlc]
 obtain⟨c0,hroot⟩:=fam_root hf
 simp only at hroot
 have hfS:f∈hds (S m):=by rw[hS];exact List.mem_cons_self
 have hnod:=K0.nod m _ hl
 rw[hS]at hnod
 obtain⟨n1,n2⟩:=List.nodup_cons.1 hnod
 by_cases hcl:cap=len
 ·subst hcl
  have hap:=app_full (base:=X.base) A hlen hx0 hbd hnw hnl hro
  have hgN:(h.push (.cells (cs.take (cap*z)++new) h.size h.size 0)).get h.size=some (.cells (cs.take (cap*z)++new) h.size h.size 0):=by rw[AHeap.get_push,if_pos rfl]
  have frz:∀b cs',F b→h.rd b=some cs'→(h.push (.cells (cs.take (cap*z)++new) h.size h.size 0)).rd b=some cs':=fun b cs' hb hr=>(rd_push H.wf.le _ (H.Flt hb)).trans hr
  have sameN:∀b,b<h.size→(h.push (.cells (cs.take (cap*z)++new) h.size h.size 0)).get b=h.get b:=fun b hb=>by rw[AHeap.get_push,if_neg (by omega)]
  have fin2:∀F3,(∀b,F b→F3 b)→Mem X (updG (updG ρ m none) c (some (.arr h.size z (cap+xs.length)))) F3 ((c,y2)::drop1 o m) (c+1) (h.push (.cells (cs.take (cap*z)++new) h.size h.size 0))→(∀t x,VR c ρ F h t x→VR (c+1) (updG (updG ρ m none) c (some (.arr h.size z (cap+xs.length)))) F3 (h.push (.cells (cs.take (cap*z)++new) h.size h.size 0)) t x)→Did E X ρ F o c af h p K:=by
   intro F3 f3 M3 k3
   refine Did.eff H hp hq hal (fin _ _ hap) ⟨M3,k3,by show h.size≤h.size+1;omega,f3,frz⟩ ?_ (fun n y hln hne=>?_) hK
   ·refine .tk (by omega) rfl (fun b' z' len hx=>?_) (fun z hx=>?_)
    ·rw[updG_self]at hx;cases hx
     exact⟨cap+xs.length+1,by omega,by simp⟩
    ·rw[updG_self]at hx;cases hx
   ·obtain⟨q1,q2⟩:=raw_drop H (y:=y2) (l:=some (.arr h.size z (cap+xs.length))) n y hln hne
    have hlt:=fun b' hb'=>H.atB_lt (b:=b') hln hb'
    exact⟨q1,q2,fun b' hb'=>⟨sameN b' (hlt b' hb'),fun cs hr=>(rd_push H.wf.le _ (hlt b' hb')).trans hr⟩⟩
  have hwfN:Wf (h.push (.cells (cs.take (cap*z)++new) h.size h.size 0)):=H.wf.push fun cs f tip thr e=>by cases e;exact Nat.le_refl _
  obtain⟨M3,k3⟩:=H.moveG K0 (S0:=(h.size,w)::Sq) (y':=y2) (q:=.arr h.size z (cap+xs.length)) (h':=h.push (.cells (cs.take (cap*z)++new) h.size h.size 0)) hl hb (by rw[AHeap.size_push];omega) hwfN sameN frz (fun p hp=>by
   rcases List.mem_cons.1 hp with rfl |hp
   ·exact .inr rfl
   ·rw[hS];exact .inl (List.mem_cons_of_mem _ hp)) (List.nodup_cons.2 ⟨fun hx=>by
    have:=(K0.mine m _ h.size hl (by rw[hS];exact List.mem_cons_of_mem _ hx)).2.1
    omega,n2⟩) (fun x hx=>by
    rw[AHeap.size_push]
    rcases List.mem_cons.1 hx with rfl |hx
    ·simp
    ·have:=(K0.mine m _ x hl (by rw[hS];exact List.mem_cons_of_mem _ hx)).2.1
     omega) (!w) (fun hw'=>by
    have hwf:w=false:=by simpa using hw'
    subst hwf
    have hSq:Sq=[]:=by rcases hw with h|h;cases h;exact h
    subst hSq
    exact⟨by rw[rd_of (fam_of hgN hgN) (Nat.zero_le _) (cellsOf_get hgN)];rfl,hd_get hgN,by simp⟩) (by simp) fun hm=>
   hor (T:=fun _=>False) hm (fun _ h=>.inl h) frz (fun b hb _=>sameN b hb) (fun _ _ hf=>hf.elim) (updG_self _ _ _) hgN (fam_of hgN hgN) (Nat.zero_le _) H.bsz (fun h=>.inr ⟨by simp[h],rfl⟩)
  exact fin2 _ (fun _ h=>.inl h) M3 k3
 ·have hap:=app_ext (base:=X.base) (cap:=cap) A hlen hx0 hbd hnw hnl hro hcl (cellsOf_get hg) hf hbf hone
  obtain⟨thr',hth⟩:∃t,t=(bif Nat.beq (len*z) cs.length then thr else h.size):=⟨_,rfl⟩
  rw[←hth]at hap
  have hbl:=H.wf.lt hg
  have hth1:thr'≤h.size:=by cases hb7:Nat.beq (len*z) cs.length<;>rw[hb7]at hth<;>simp only[cond_true,cond_false]at hth<;>omega
  have hth2:thr'=thr∨w=true:=by
   rcases hlw with e|e
   ·left;rw[hth,e,show Nat.beq (len*z) (len*z)=true from beq_iff.2 rfl];rfl
   ·exact .inr e
  have same9:∀x,x<h.size→hd h x≠f→(extH h f thr' (cs.take (len*z)++new)).get x=h.get x:=fun x hx hx2=>by
   rw[ext_get hroot,if_neg (by omega),if_neg]
   intro e;subst e;exact hx2 (hd_get hroot)
  have frz9:∀x cs',F x→h.rd x=some cs'→(extH h f thr' (cs.take (len*z)++new)).rd x=some cs':=fun x cs' hx hr=>by
   rcases hth2 with e|e
   ·rw[e];exact ext_rd H.wf hroot hr
   ·exact rd_same H.wf same9 (K0.apart m _ f x hl (by rw[hS,e];exact List.mem_cons_self) hx) hr
  obtain⟨M2,k2⟩:=H.growG K0 thr' (len':=len+xs.length) (cs':=cs.take (len*z)++new) (y':=y2) hl hS hb hg hf ht hth1 hth2 fun hm same frz hgc hfc=>
   hor (T:=fun x=>x=f) hm (fun _ h=>.inl h) frz same (fun x hx e=>n1 (by subst e;exact hx)) (updG_self _ _ _) hgc hfc hth1 hbf (fun hw=>.inr ⟨hw,rfl⟩)
  refine Did.eff H hp hq hal (fin _ _ hap) ⟨M2,k2,by rw[ext_size];omega,fun _ h=>.inl h,frz9⟩ ?_ (fun n y hln hne=>?_) hK
  ·refine .tk (by omega) rfl (fun b' z' len hx=>?_) (fun z hx=>?_)
   ·rw[updG_self]at hx;cases hx
    exact⟨_,by omega,rfl⟩
   ·rw[updG_self]at hx;cases hx
  ·obtain⟨q1,q2⟩:=raw_drop H (y:=y2) (l:=some (.arr h.size z (len+xs.length))) n y hln hne
   have hne':n≠m:=by simpa using hne
   refine⟨q1,q2,fun b' hb'=>?_⟩
   obtain⟨hlt,hh⟩:=H.atB_hd K0 hln hb'
   have hne9:hd h b'≠f:=fun e=>by
    rw[e]at hh
    exact hne' (K0.heads n m _ _ _ hln hl hh hfS)
   exact⟨same9 b' hlt hne9,fun cs hr=>rd_same H.wf same9 hne9 hr⟩
theorem app_tk (H:Mem X ρ F o c h) {st xt elem:TypeId} {z bytes:Nat} {xs:List (List TV)} {xv:Value} {S:Nat→Ft} (K0:MO X ρ F o c h S) {m b f t0 th0 thr len cap:Nat} {w:Bool} {y y2:TO} {Sq:Ft} {cs new:List Value} (A:AppT E st xt elem z bytes) (hlen:lenV xv=some xs.length) (hx0:xs.length≠0)
 (fin:∀v h',aappend E X.base h st xt (.slice (some ⟨b,0,some z⟩) len cap) xv=some (v,h')→aeff E X.base af p h=some (.val v,h')) (hp:apure E af p=none) (hq:aread E af p=none) (hal:aalloc E af p=none)
 (hl:look o m=some y) (hS:S m=(f,w)::Sq) (hb:ρ m=some (.arr b z len)) (hg:h.get b=some (.cells cs f t0 th0)) (hf:h.fam b=some (f,b,thr)) (ht:thr≤b) (hbf:X.base≤f) (hz:0<z) (hlc:cs.length=len*z) (hcap:len≤cap)
 (hbd:(len+xs.length+1)*(bytes+1)≤1099511627776) (hnw:firstV h z xs.length xv=some new) (hnl:new.length=xs.length*z) (hone:new.all oneC=true) (hw:w=true∨Sq=[])
 (hor:∀{c':Nat} {ρ':Gh} {F':Nat→Prop} {h':AHeap} {b' f' t1 th1 thr1:Nat} {T:Nat→Prop},(∀t v,VR c ρ F h t v→VR c' ρ' F' h' t v)→(∀b,F b→F' b)→(∀b cs,F b→h.rd b=some cs→h'.rd b=some cs)→(∀b,b<h.size→¬T (hd h b)→h'.get b=h.get b)→(∀x∈hds Sq,¬T x)→
  ρ' c=some (.arr b' z (len+xs.length))→h'.get b'=some (.cells (cs++new) f' t1 th1)→h'.fam b'=some (f',b',thr1)→thr1≤b'→X.base≤f'→(w=false→F' b')→OR c' ρ' F' h' X.base c ((f',w)::Sq) y2)
 (hK:K (.tk c) ((c,y2)::drop1 o m) (c+1) (.eff [m])):Did E X ρ F o c af h p K:=by
 have e:cs.take (len*z)=cs:=List.take_of_length_le (by omega)
 exact app_tkG H K0 A hlen hx0 fin hp hq hal hl hS hb hg hf ht hbf hz (by omega) (.inl hlc) hcap hbd hnw hnl hone hw (by rw[e];exact hor) hK
theorem wappendZ_ok (L:EnvLe T E) (H:Mem X ρ F o c h) {st xt:TypeId} {l:Int} {sv:Value} {fl:Bool} (hw:wappendZ T st xt l o c K) (hs:VR c ρ F h (.sl 0 [] fl) sv) (hp:apure E af p=none) (hq:aread E af p=none) (hal:aalloc E af p=none)
 (fin:∀v h',aappendZ E h st xt sv (.int .i64 l)=some (v,h')→aeff E X.base af p h=some (.val v,h')):Did E X ρ F o c af h p K:=by
 have cs0:∀m y,look o m=some y→m≠c:=fun m y hl=>by have:=H.lt hl;omega
 have e:sv= .slice none 0 0:=by
  cases hs with
  |nil=>rfl
  |sl q1 q2 q3=>omega
 subst e
 unfold wappendZ at hw
 split at hw
 ·rename_i elem k hd hxd
  split at hw
  ·rename_i n bytes z hn hby hz
   obtain⟨hz',hpl⟩:=L.zero _ _ hz
   split at hw
   ·rename_i zs hc hzs
    simp only[Bool.and_eq_true,beq_iff,blt_iff]at hc
    obtain⟨⟨hc1,hc2⟩,hby0⟩:=hc
    split at hw
    ·rename_i hzf
     obtain⟨⟨b1,b2⟩,hK⟩:=hw
     have hbd:(l.toNat+1)*(bytes+1)≤1099511627776:=size_le (by omega) hby0
     have hzr:=zcells_rel (c:=c) (ρ:=ρ) (F:=F) (h:=h) hpl hzs
     have hzl:zs.length=n:=by have:=hzr.1;simp only[Array.length_toList]at this;omega
     have hE:=ER.replicate hzr hzl hzf l.toNat
     obtain⟨M2,k2⟩:=H.newArr hE hc2
     have hap:aappendZ E h st xt (.slice none 0 0) (.int .i64 l)=some (fresh h (repeatL z.cells.toList l.toNat) n l.toNat):=by
      unfold aappendZ
      rw[L.desc _ _ hd,L.desc _ _ hxd]
      simp only[Option.bind_some,L.size _ _ hn,L.bytes _ _ hby,hz']
      simp only[isIntT,hc1,grd]
      rw[show Nat.beq n n=true from beq_iff.2 rfl,show Nat.blt 0 n=true from blt_iff.2 hc2,show Nat.blt 0 l.toNat=true from blt_iff.2 (by omega),ble_iff.2 hbd]
      rfl
     rw[List.length_replicate]at M2 k2
     refine Did.eff H hp hq hal (fin _ _ hap) ⟨M2,k2,by show h.size≤h.size+1;omega,fun _ h=>h,fun b cs hb hr=>(rd_push H.wf.le _ (H.Flt hb)).trans hr⟩ ?_ (fun m y hl hm=>⟨?_,?_,fun b hb=>?_⟩) hK
     ·refine .tk (by omega) rfl (fun b z len hx=>?_) (fun z hx=>?_)
      ·rw[updG_self]at hx;cases hx;exact⟨_,by omega,rfl⟩
      ·rw[updG_self]at hx;cases hx
     ·rw[look_cons,if_neg (cs0 m y hl).symm];exact⟨y,hl⟩
     ·rw[updG_ne _ _ (cs0 m y hl)]
     ·have:=H.atB_lt hl hb
      exact⟨by rw[AHeap.get_push,if_neg (by omega)],fun cs hr=>by rw[rd_push H.wf.le _ this];exact hr⟩
    ·exact hw.elim
   ·exact hw.elim
  ·exact hw.elim
 ·exact hw.elim
theorem wappend_ok (L:EnvLe T E) (H:Mem X ρ F o c h) {st xt:TypeId} {s x:TV} {sv xv:Value} (hw:wappend T st xt s x o c K) (hs:VR c ρ F h s sv) (hx:VR c ρ F h x xv) (hp:apure E af p=none) (hq:aread E af p=none) (hal:aalloc E af p=none)
 (fin:∀v h',aappend E X.base h st xt sv xv=some (v,h')→aeff E X.base af p h=some (.val v,h')):Did E X ρ F o c af h p K:=by
 have w0:∀m y,look o m=some y→m∉([]:List Nat)→(∃y',look o m=some y')∧ρ m=ρ m:=fun m y hl _=>⟨⟨y,hl⟩,rfl⟩
 -- a slice without elements
 have emp:∀{z n:Nat},z=n∨z=0→VR c ρ F h (.sl z [] true) sv→sv= .slice none 0 0∨∃b oo cs,F b∧h.rd b=some cs∧oo≤cs.length∧sv= .slice (some ⟨b,oo,some n⟩) 0 0:=by
  intro z n hz hs
  cases hs with
  |nil=>exact .inl rfl
  |sl q1 q2 q3 q4 q5 q6 q7 q8 q9 q10=>
   have hzn:z=n:=by omega
   subst hzn
   simp at q4
   subst q4
   rw[q6 rfl]
   exact .inr ⟨_,_,_,q1,q2,by omega,rfl⟩
 have flq:∀{y:TO} {o1:Ob} {ρ1:Gh} {F1:Nat→Prop} {h1:AHeap},Mem X ρ1 F1 ((c,y)::o1) (c+1) h1→∃F',Mem X ρ1 F' ((c,y)::o1) (c+1) h1∧(∀t v,VR (c+1) ρ1 F1 h1 t v→VR (c+1) ρ1 F' h1 t v)∧∀b,F1 b→F' b:=
  fun {y o1 ρ1 F1 h1} M=>⟨F1,M,fun _ _ h=>h,fun _ h=>h⟩
 have closed:∀{e:List TV},(∀t∈e,fz t=true)→∀t∈e,clT t=true:=fun {e} he t ht=>by
  have:=he t ht
  unfold clT;split<;>first|rfl |exact this
 unfold wappend at hw
 split at hw
 ·rename_i elem xelem hsd hxd
  split at hw
  ·rename_i n bytes z0 zx xs hn hby hz0 hes
   split at hw
   ·rename_i hc
    simp only[Bool.and_eq_true,beq_iff,blt_iff,Bool.or_eq_true]at hc
    obtain⟨⟨⟨hz0n,hn0⟩,hzx⟩,hby0⟩:=hc
    have size:∀{k:Nat},k<1048576→(k+1)*(bytes+1)≤1099511627776:=fun {k} hk=>size_le hk hby0
    have A:AppT E st xt elem n bytes:=⟨L.desc _ _ hsd,⟨_,L.desc _ _ hxd⟩,L.size _ _ hn,L.bytes _ _ hby,_,(L.zero _ _ hz0).1,hz0n⟩
    obtain⟨hlen,_,hxf,hcont⟩:=content_rel H hes (hzx.imp id fun h=>⟨h,rfl⟩) (by simp) hx
    have newA:∀{ρ1:Gh} {F1:Nat→Prop} {o1:Ob},Mem X ρ1 F1 o1 c h→∀new,(([]:List (Nat×List TV))=[]→ER c ρ1 F1 h n xs new)→new.length=xs.length*n→(∀e∈xs,e.length=n)→VRs c ρ1 F1 h (apOp xs []).flatten new→Mem X (updG ρ1 c (some (.arr h.size n xs.length))) F1 ((c,.arr n true xs)::o1) (c+1) (h.push (.cells new h.size h.size 0))∧∀t v,VR c ρ1 F1 h t v→VR (c+1) (updG ρ1 c (some (.arr h.size n xs.length))) F1 (h.push (.cells new h.size h.size 0)) t v:=
     fun M1 new hE _ _ _=>M1.newArr (hE rfl) hn0
    split at hw
    ·rename_i z
     split at hw
     ·rename_i hz
      simp only[Bool.or_eq_true,beq_iff]at hz
      obtain⟨hbd,hK⟩:=hw
      exact app_empty H A hn0 hlen hcont fin hp hq hal H (fun _ _ h=>h) (fun _ h=>h) w0 (emp hz hs) (size hbd) (fun e c ρ F m hm=>by subst e;exact .nil hm hn0) (newA H) flq hK
     ·exact hw.elim
    ·rename_i m
     split at hw
     ·rename_i z w es hl
      split at hw
      ·rename_i hz
       rw[beq_iff]at hz
       subst hz
       obtain⟨hbd0,hK⟩:=hw
       have hbd:=size hbd0
       obtain⟨S,K0⟩:=H.ex
       have hO:=K0.objs m _ hl
       generalize hS:S m=Sm at hO
       have htk:=hO.tk rfl hs
       cases hO with
       |nil hb hz'=>
        rcases htk with⟨_,_,hsv⟩|⟨b,cap,h1,_⟩
        ·obtain⟨M1,k1⟩:=H.gone hl rfl
         refine app_empty H (ns:=[m]) (y1:=.arr z true xs) (y2:=.arr z w xs) A hn0 hlen hcont fin hp hq hal M1 k1 (fun _ h=>h) (fun n y hln hne=>?_) (hsv.imp id fun⟨b,o',cs,q1,q2,q3,q4,q5⟩=>⟨b,o',cs,q1,q2,q4,q5⟩) (by simpa using hbd) (fun e c ρ F m hm=>by subst e;exact .nil hm hn0) (newA M1) (fun M=>M.flag w) (by simpa using hK)
         have hne':n≠m:=by simpa using hne
         exact⟨⟨y,by rw[look_drop1,if_neg hne'];exact hln⟩,updG_ne _ _ hne'⟩
        ·rw[hb]at h1;cases h1
       |arr hb hg hf ht hbf hz' hlen' hee hfz hc hF=>
        rename_i b f t0 th0 thr cs
        rcases htk with⟨_,h1,_⟩|⟨b',cap,h1,hcap,rfl⟩
        ·rw[hb]at h1;cases h1
        ·rw[hb]at h1;cases h1
         by_cases hx0:xs.length=0
         ·have hxe:xs=[]:=List.length_eq_zero_iff.1 hx0
          subst hxe
          obtain⟨M2,k2⟩:=H.rename hl hb
          have hap:aappend E X.base h st xt (.slice (some ⟨b,0,some z⟩) es.length cap) xv=some (.slice (some ⟨b,0,some z⟩) es.length cap,h):=
           app_none A rfl (by rintro l k e;cases e) (by rintro b oo sp l k e;cases e;rfl) hlen
          rw[List.append_nil]at hK
          refine Did.eff H hp hq hal (fin _ _ hap) ⟨M2,k2,Nat.le_refl _,fun _ h=>h,fun _ _ _ hr=>hr⟩ ?_ (fun n y hln hne=>?_) hK
          ·refine .tk (by omega) rfl (fun b' z' len hx=>?_) (fun z hx=>?_)
           ·rw[updG_self]at hx;cases hx;exact⟨_,hcap,rfl⟩
           ·rw[updG_self]at hx;cases hx
          ·obtain⟨q1,q2⟩:=raw_drop H (y:=.arr z w es) (l:=some (.arr b z es.length)) n y hln hne
           exact⟨q1,q2,fun b' _=>⟨rfl,fun _ hr=>hr⟩⟩
         ·rcases hcont with e|⟨new,hnew,hE,hnl,hez,hV⟩
          ·subst e;simp at hx0
          ·have hEE:ER c ρ F h z (es++xs) (cs++new):=ER.append ⟨hlen',hee,hfz,hc⟩ (hE rfl)
           refine app_tk H K0 (y2:=.arr z w (es++xs)) A hlen hx0 fin hp hq hal hl hS hb hg hf ht hbf hz' hlen' hcap hbd hnew hnl ((hE rfl).oneC hz') (.inr rfl) (fun hm hFF frz same hT hρ' hg' hf' ht' hbf' hF'=>?_) hK
           exact OR.arr' (by rw[List.length_append];exact hρ') hg' hf' ht' hbf' hz' (hEE.mono hm) hF'
      ·exact hw.elim
     ·rename_i z es op0 hl
      split at hw
      ·rename_i hz
       rw[beq_iff]at hz
       subst hz
       obtain⟨hbd0,hK⟩:=hw
       have hbd:=size hbd0
       obtain⟨S,K0⟩:=H.ex
       have hO:=K0.objs m _ hl
       generalize hS:S m=Sm at hO
       have htk:=hO.tk rfl hs
       cases hO with
       |qnil hb hz'=>
        rcases htk with⟨_,_,hsv⟩|⟨b,cap,h1,_⟩
        ·obtain⟨M1,k1⟩:=H.gone hl rfl
         refine app_empty H (ns:=[m]) (y1:=.arq z xs []) (y2:=.arq z xs []) A hn0 hlen hcont fin hp hq hal M1 k1 (fun _ h=>h) (fun n y hln hne=>?_) (hsv.imp id fun⟨b,o',cs,q1,q2,q3,q4,q5⟩=>⟨b,o',cs,q1,q2,q4,q5⟩) (by simpa using hbd) (fun e c ρ F m hm=>by subst e;exact .qnil hm hn0) (fun new hE h1 h2 h3=>?_) flq (by simpa using hK)
         ·have hne':n≠m:=by simpa using hne
          exact⟨⟨y,by rw[look_drop1,if_neg hne'];exact hln⟩,updG_ne _ _ hne'⟩
         ·exact M1.newArq ⟨h1,h2,fun e he=>closed (hxf e he),by simp,CNs.ofVRs h3⟩ hn0
        ·rw[hb]at h1;cases h1
       |arq hb hg hf ht hbf hz' hlen' hee hcl hop hc=>
        rename_i Sq b f t0 th0 thr cs
        rcases htk with⟨_,h1,_⟩|⟨b',cap,h1,hcap,rfl⟩
        ·rw[hb]at h1;cases h1
        ·rw[hb]at h1;cases h1
         by_cases hx0:xs.length=0
         ·have hxe:xs=[]:=List.length_eq_zero_iff.1 hx0
          subst hxe
          obtain⟨M2,k2⟩:=H.rename hl hb
          have hap:aappend E X.base h st xt (.slice (some ⟨b,0,some z⟩) es.length cap) xv=some (.slice (some ⟨b,0,some z⟩) es.length cap,h):=
           app_none A rfl (by rintro l k e;cases e) (by rintro b oo sp l k e;cases e;rfl) hlen
          rw[List.append_nil]at hK
          refine Did.eff H hp hq hal (fin _ _ hap) ⟨M2,k2,Nat.le_refl _,fun _ h=>h,fun _ _ _ hr=>hr⟩ ?_ (fun n y hln hne=>?_) hK
          ·refine .tk (by omega) rfl (fun b' z' len hx=>?_) (fun z hx=>?_)
           ·rw[updG_self]at hx;cases hx;exact⟨_,hcap,rfl⟩
           ·rw[updG_self]at hx;cases hx
          ·obtain⟨q1,q2⟩:=raw_drop H (y:=.arq z es op0) (l:=some (.arr b z es.length)) n y hln hne
           exact⟨q1,q2,fun b' _=>⟨rfl,fun _ hr=>hr⟩⟩
         ·rcases hcont with e|⟨new,hnew,hE,hnl,hez,hV⟩
          ·subst e;simp at hx0
          ·refine app_tk H K0 (y2:=.arq z (es++xs) op0) A hlen hx0 fin hp hq hal hl hS hb hg hf ht hbf hz' hlen' hcap hbd hnew hnl ((hE rfl).oneC hz') (.inl rfl) (fun hm hFF frz same hT hρ' hg' hf' ht' hbf' hF'=>?_) hK
           refine OR.arq' (by rw[List.length_append];exact hρ') hg' hf' ht' hbf' hz' ⟨by simp[hlen',hnl,Nat.add_mul],fun e he=>?_,fun e he=>?_,fun p hp=>⟨by have:=(hop p hp).1;simp;omega,(hop p hp).2⟩,?_⟩
           ·rcases List.mem_append.1 he with h1|h1
            ·exact hee e h1
            ·exact hez e h1
           ·rcases List.mem_append.1 he with h1|h1
            ·exact hcl e h1
            ·exact closed (hxf e h1)
           ·have:=(hc.keep H.wf same hFF frz hm hT).join (CNs.ofVRs (base:=X.base) (hV.mono' hm))
            rw[List.append_nil]at this
            rw[(app_ap fun p hp=>(hop p hp).1).1,List.flatten_append]
            exact this
      ·exact hw.elim
     ·exact hw.elim
    ·rename_i m k
     split at hw
     ·rename_i z es hl
      split at hw
      ·rename_i hz
       rw[beq_iff]at hz
       subst hz
       obtain⟨⟨hke,hbd0,hxe⟩,hK⟩:=hw
       have hbd:=size hbd0
       have hx0:xs.length≠0:=fun e=>hxe (List.length_eq_zero_iff.1 e)
       obtain⟨S,K0⟩:=H.ex
       have hO:=K0.objs m _ hl
       generalize hS:S m=Sm at hO
       cases hs with
       |pv hnc h1c ha h0=>
       cases hO with
       |nil hb hz'=>
        have hsv:=h0 _ hb
        have hk0:k=0:=by simpa using hke
        subst hk0
        obtain⟨M1,k1⟩:=H.gone hl rfl
        refine app_empty H (ns:=[m]) (y1:=.arr z true xs) (y2:=.arr z true xs) A hn0 hlen hcont fin hp hq hal M1 k1 (fun _ h=>h) (fun n y hl hne=>?_) (hsv.imp id fun⟨b,o',cs,q1,q2,q3,q4,q5⟩=>⟨b,o',cs,q1,q2,q4,q5⟩) (by simpa using hbd) (fun e c ρ F m hm=>by subst e;exact .nil hm hn0) (newA M1) flq (by simpa using hK)
        have hne':n≠m:=by simpa using hne
        exact⟨⟨y,by rw[look_drop1,if_neg hne'];exact hl⟩,updG_ne _ _ hne'⟩
       |arr hb hg hf ht hbf hz' hlen' hee hfz hc hF=>
        rename_i b f t0 th0 thr cs
        obtain⟨cap,hcap,rfl⟩:=ha _ _ _ hb
        rcases hcont with e|⟨new,hnew,hE,hnl,hez,hV⟩
        ·exact absurd e hxe
        ·have hkz:k*z≤cs.length:=by rw[hlen'];exact Nat.mul_le_mul_right _ hke
         have hEE:ER c ρ F h z (es.take k++xs) (cs.take (k*z)++new):=ER.append (ER.take ⟨hlen',hee,hfz,hc⟩ hke) (hE rfl)
         refine app_tkG H K0 (y2:=.arr z true (es.take k++xs)) A hlen hx0 fin hp hq hal hl hS hb hg hf ht hbf hz' hkz (.inr rfl) hcap hbd hnew hnl ((hE rfl).oneC hz') (.inl rfl) (fun hm hFF frz same hT hρ' hg' hf' ht' hbf' hF'=>?_) hK
         exact OR.arr' (by rw[List.length_append,List.length_take,Nat.min_eq_left hke];exact hρ') hg' hf' ht' hbf' hz' (hEE.mono hm) hF'
      ·exact hw.elim
     ·exact hw.elim
    ·exact hw.elim
   ·exact hw.elim
  ·rename_i n bytes z0 zx xs q hn hby hz0 hes
   split at hw
   ·rename_i hc
    simp only[Bool.and_eq_true,beq_iff,blt_iff]at hc
    obtain⟨⟨⟨⟨hz0n,hn0⟩,rfl⟩,hby0⟩,hpl,hokq⟩:=hc
    have size:∀{k:Nat},k<1048576→(k+1)*(bytes+1)≤1099511627776:=fun {k} hk=>size_le hk hby0
    have A:AppT E st xt elem zx bytes:=⟨L.desc _ _ hsd,⟨_,L.desc _ _ hxd⟩,L.size _ _ hn,L.bytes _ _ hby,_,(L.zero _ _ hz0).1,hz0n⟩
    obtain⟨hlen,hop0,hxf,hcont⟩:=content_rel H hes (.inl rfl) (by simpa using hpl) hx
    obtain⟨o1,o2⟩:=hop0 q (by simp)
    have hx0:xs.length≠0:=by omega
    have newQ:∀{ρ1:Gh} {F1:Nat→Prop} {o1:Ob},Mem X ρ1 F1 o1 c h→∀new,([q]=[]→ER c ρ1 F1 h zx xs new)→new.length=xs.length*zx→(∀e∈xs,e.length=zx)→VRs c ρ1 F1 h (apOp xs [q]).flatten new→Mem X (updG ρ1 c (some (.arr h.size zx xs.length))) F1 ((c,.arq zx xs [q])::o1) (c+1) (h.push (.cells new h.size h.size 0))∧∀t v,VR c ρ1 F1 h t v→VR (c+1) (updG ρ1 c (some (.arr h.size zx xs.length))) F1 (h.push (.cells new h.size h.size 0)) t v:=
     fun M1 new _ h1 h2 h3=>M1.newArq ⟨h1,h2,fun e he=>closed (hxf e he),hop0,CNs.ofVRs h3⟩ hn0
    have hones:∀{new:List Value},VRs c ρ F h (apOp xs [q]).flatten new→new.length=xs.length*zx→new.all oneC=true:=by
     intro new hV _
     refine VRs.oneC' hV fun t ht=>?_
     obtain⟨e,h1,h2⟩:=List.mem_flatten.1 ht
     rcases List.mem_or_eq_of_mem_set (show e∈xs.set q.1 q.2 from h1)with h3|rfl
     ·have:=hxf e h3 t h2
      cases t<;>first|rfl |simp[fz]at this
     ·exact List.all_eq_true.1 hokq t h2
    -- to an array that is there
    have main:∀{es:List (List TV)} {op0:List (Nat×List TV)} {Sq:Ft} {S:Nat→Ft} {b f t0 th0 thr m cap:Nat} {cs:List Value} {y:TO},MO X ρ F o c h S→look o m=some y→S m=(f,true)::Sq→ρ m=some (.arr b zx es.length)→h.get b=some (.cells cs f t0 th0)→h.fam b=some (f,b,thr)→thr≤b→X.base≤f→cs.length=es.length*zx→es.length≤cap→sv= .slice (some ⟨b,0,some zx⟩) es.length cap→
     (∀e∈es,e.length=zx)→(∀e∈es,∀t∈e,clT t=true)→(∀p∈op0,p.1<es.length∧p.2.length=zx)→CNs c ρ F h X.base Sq (apOp es op0).flatten cs→es.length+xs.length<1048576→K (.tk c) ((c,.arq zx (es++xs) ((es.length+q.1,q.2)::op0))::drop1 o m) (c+1) (.eff [m])→Did E X ρ F o c af h p K:=by
     intro es op0 Sq S b f t0 th0 thr m cap cs y K0 hl hS hb hg hf ht hbf hlen' hcap hsv hee hcl hop hc hbd hK
     subst hsv
     rcases hcont with e|⟨new,hnew,_,hnl,hez,hV⟩
     ·subst e;simp at hx0
     ·refine app_tk H K0 (y2:=.arq zx (es++xs) ((es.length+q.1,q.2)::op0)) A hlen hx0 fin hp hq hal hl hS hb hg hf ht hbf hn0 hlen' hcap (size hbd) hnew hnl (hones hV hnl) (.inl rfl) (fun hm hFF frz same hT hρ' hg' hf' ht' hbf' hF'=>?_) hK
      refine OR.arq' (by rw[List.length_append];exact hρ') hg' hf' ht' hbf' hn0 ⟨by simp[hlen',hnl,Nat.add_mul],fun e he=>?_,fun e he=>?_,fun r hr=>?_,?_⟩
      ·rcases List.mem_append.1 he with h1|h1
       ·exact hee e h1
       ·exact hez e h1
      ·rcases List.mem_append.1 he with h1|h1
       ·exact hcl e h1
       ·exact closed (hxf e h1)
      ·rcases List.mem_cons.1 hr with rfl |hr
       ·exact⟨by simp;omega,o2⟩
       ·have:=hop r hr
        exact⟨by simp;omega,this.2⟩
      ·have:=(hc.keep H.wf same hFF frz hm hT).join (CNs.ofVRs (base:=X.base) (hV.mono' hm))
       rw[List.append_nil]at this
       rw[cons_ap fun p hp=>(hop p hp).1,List.flatten_append]
       exact this
    split at hw
    ·rename_i z
     split at hw
     ·rename_i hz
      simp only[Bool.or_eq_true,beq_iff]at hz
      obtain⟨hbd,hK⟩:=hw
      exact app_empty H A hn0 hlen hcont fin hp hq hal H (fun _ _ h=>h) (fun _ h=>h) w0 (emp hz hs) (size hbd) (fun e=>by subst e;simp at hx0) (newQ H) flq hK
     ·exact hw.elim
    ·rename_i m
     have nilcase:∀{y:TO},look o m=some y→arrO y=true→lenO y=0→zOf y=zx→(sv= .slice none 0 0∨∃b o cs,F b∧h.rd b=some cs∧0<zOf y∧o≤cs.length∧sv= .slice (some ⟨b,o,some (zOf y)⟩) 0 0)→xs.length<1048576→K (.tk c) ((c,.arq zx xs [q])::drop1 o m) (c+1) (.eff [m])→Did E X ρ F o c af h p K:=by
      intro y hl hy h0 hz hsv hbd hK
      obtain⟨M1,k1⟩:=H.gone hl hy
      refine app_empty H (ns:=[m]) (y1:=.arq zx xs [q]) (y2:=.arq zx xs [q]) A hn0 hlen hcont fin hp hq hal M1 k1 (fun _ h=>h) (fun n y hln hne=>?_) (hsv.imp id fun⟨b,o',cs,q1,q2,q3,q4,q5⟩=>⟨b,o',cs,q1,q2,q4,by rw[←hz];exact q5⟩) (size hbd) (fun e=>by subst e;simp at hx0) (newQ M1) flq hK
      have hne':n≠m:=by simpa using hne
      exact⟨⟨y,by rw[look_drop1,if_neg hne'];exact hln⟩,updG_ne _ _ hne'⟩
     have shift0:shiftOp 0 [q]=[q]:=by simp[shiftOp]
     split at hw
     ·rename_i z es hl
      split at hw
      ·rename_i hz
       rw[beq_iff]at hz
       subst hz
       obtain⟨hbd,hK⟩:=hw
       obtain⟨S,K0⟩:=H.ex
       have hO:=K0.objs m _ hl
       generalize hS:S m=Sm at hO
       have htk:=hO.tk rfl hs
       cases hO with
       |nil hb hz'=>
        rcases htk with⟨h0,_,hsv⟩|⟨b,cap,h1,_⟩
        ·exact nilcase hl rfl h0 rfl hsv (by simpa using hbd) (by simpa[shift0]using hK)
        ·rw[hb]at h1;cases h1
       |arr hb hg hf ht hbf hz' hlen' hee hfz hc hF=>
        rcases htk with⟨_,h1,_⟩|⟨b',cap,h1,hcap,hsv⟩
        ·rw[hb]at h1;cases h1
        ·rw[hb]at h1;cases h1
         exact main (op0:=[]) K0 hl hS hb hg hf ht hbf hlen' hcap hsv hee (fun e he=>closed (hfz e he)) (by simp) (CNs.ofVRs (VRs_flatten hlen' hee hc)) hbd hK
      ·exact hw.elim
     ·rename_i z es op0 hl
      split at hw
      ·rename_i hz
       rw[beq_iff]at hz
       subst hz
       obtain⟨hbd,hK⟩:=hw
       obtain⟨S,K0⟩:=H.ex
       have hO:=K0.objs m _ hl
       generalize hS:S m=Sm at hO
       have htk:=hO.tk rfl hs
       cases hO with
       |qnil hb hz'=>
        rcases htk with⟨h0,_,hsv⟩|⟨b,cap,h1,_⟩
        ·exact nilcase hl rfl h0 rfl hsv (by simpa using hbd) (by simpa[shift0]using hK)
        ·rw[hb]at h1;cases h1
       |arq hb hg hf ht hbf hz' hlen' hee hcl hop hc=>
        rcases htk with⟨_,h1,_⟩|⟨b',cap,h1,hcap,hsv⟩
        ·rw[hb]at h1;cases h1
        ·rw[hb]at h1;cases h1
         exact main K0 hl hS hb hg hf ht hbf hlen' hcap hsv hee hcl hop hc hbd hK
      ·exact hw.elim
     ·exact hw.elim
    ·exact hw.elim
   ·exact hw.elim
  ·exact hw.elim
 ·exact hw.elim
end
end Go.M
namespace Go.M
open Go
section
variable {T E:Env} {X:Cx} {ρ:Gh} {F:Nat→Prop} {o:Ob} {c:Nat} {af:AF} {f:Fr} {h:AHeap} {p:Oper} {K:OK}
theorem look_dropIds':∀{ids:List (Option Nat)} {o:Ob} {n:Nat},(∀k:Nat,ids[k]? ≠some (some n))→look (dropIds ids o) n=look o n
 |[],o,n,_=>rfl
 |none::l,o,n,h=>look_dropIds' (ids:=l) fun k=>by simpa using h (k+1)
 |some m::l,o,n,h=>by
  simp only[dropIds]
  rw[look_dropIds' (ids:=l) fun k=>by simpa using h (k+1),look_drop1,if_neg]
  intro e;subst e
  exact h 0 rfl
theorem not_names:∀{ids:List (Option Nat)} {n:Nat},n∉namesOf ids→∀k:Nat,ids[k]? ≠some (some n)
 |[],n,_,k=>by simp
 |none::l,n,h,k=>by
  cases k with
  |zero=>simp
  |succ k=>simpa using not_names (ids:=l) h k
 |some m::l,n,h,k=>by
  simp only[namesOf,List.mem_cons,not_or]at h
  cases k with
  |zero=>simp;exact fun e=>h.1 e.symm
  |succ k=>simpa using not_names (ids:=l) h.2 k
theorem shareAll_wk:∀(sh:List Nat) (o:Ob) (n:Nat) (y:TO),look o n=some y→∃y',look (M.shareAll sh o) n=some y'∧weak y y'
 |[],o,n,y,h=>⟨y,h,weak.refl _⟩
 |m::sh,o,n,y,h=>by
  obtain⟨y1,h1,h2⟩:=weak_shareO o m n y h
  obtain⟨y2,h3,h4⟩:=shareAll_wk sh _ n y1 h1
  exact⟨y2,h3,h2.trans h4⟩
theorem shareAll_ok (H:Mem X ρ F o c h) (sh:List Nat):∃F',ShOk X ρ c h F o F' (M.shareAll sh o):=by
 obtain⟨F',h1,h2,h3⟩:=H.shareAll sh
 exact⟨F',h1,h2,h3,shareAll_wk sh o⟩
theorem look_dropU':∀{U:List Nat} {o:Ob} {n:Nat},n∉U→look (dropU U o) n=look o n
 |[],o,n,_=>rfl
 |m::l,o,n,h=>by
  simp only[List.mem_cons,not_or]at h
  simp only[dropU]
  rw[look_dropU' h.2,look_drop1,if_neg h.1]
theorem wcall_ok (NX:TabX E X) (H:Mem X ρ F o c h) {g:FuncId} {args:List TV} {vargs:List Value} {st:Bool} (hst:st=true→StillF E g) (hw:wcall st (VC E) g args o c K) (ha:VRs c ρ F h args vargs) (hp:apure E af p=none) (hq:aread E af p=none) (hal:aalloc E af p=none)
 (he:aeff E X.base af p h=some (.enter g vargs,h)):Did E X ρ F o c af h p K:=by
 obtain⟨sh,ids,U,args0,o0,R,hvc,⟨hargs,hO,hi⟩,hK⟩:=hw
 simp only[Bool.and_eq_true]at hi
 obtain⟨hi,hU⟩:=hi
 obtain⟨F1,Sh⟩:=shareAll_ok H sh
 have H1:=Sh.mem
 obtain⟨S,K1⟩:=H1.ex
 obtain⟨S1,Ns,D⟩:=hO.told H1 K1 hi hU
 obtain⟨hand,handO⟩:=H1.hand K1 D
 have hv0:=leVs_rel (zf:=zfO o0) H1 _ _ _ hargs (ha.mono' Sh.keep)
 obtain⟨n0,v,h',ρ',F',r,o',c',hrun,hR,MC,hr⟩:=hvc X.base _ F1 h S1 vargs (NX.now H1) hand handO hv0
 obtain⟨MM,k1,k2,k3⟩:=H1.merge K1 hi D MC
 have hsz:h.size≤h'.size:=MC.evo.size
 have hRaw:Raw ρ o h (mrgG ids c ρ ρ') (renO (back ids c) o'++dropU U (dropIds ids (shareAll sh o))) h' (namesOf ids++U):=fun n y hl hne=>by
  simp only[List.mem_append,not_or]at hne
  have hn:=not_names hne.1
  have hnc:=H.lt hl
  obtain⟨y1,q1,q2⟩:=Sh.wk n y hl
  have hnt:=k3 n y1 q1 hn hne.2
  refine⟨⟨y1,?_⟩,mrg_old hn hnc,fun b hb=>?_⟩
  ·rw[look_append]
   split
   ·rename_i y3 h3
    obtain⟨k,y4,e1,_,_⟩:=look_renO (fun k k'=>back_inj hi) h3
    exfalso
    unfold back at e1
    split at e1
    ·rename_i m hm;subst e1;exact hn k hm
    ·omega
   ·rw[look_dropU' hne.2,look_dropIds' hn];exact q1
  ·obtain⟨hbl,hh⟩:=H1.atB_hd K1 q1 hb
   have hhb:¬heads0 S1 o0 (hd h b):=hnt _ hh
   have hg:=MC.evo.keep b hbl hhb
   refine⟨hg,fun cs hr=>?_⟩
   obtain⟨r,a1,a2,a3⟩:=rd_some hr
   obtain⟨f1,t1,th1,hgb⟩:=cellsOf_some a3
   obtain⟨cr,hr1⟩:=fam_root a1
   obtain⟨cs1,p1,p2,hg1⟩:=fam_cells a1
   rw[hgb]at hg1;cases hg1
   have hgr:=MC.evo.keep r.1 (H.wf.lt hr1) (by
    have:hd h r.1=hd h b:=by rw[hd_get hr1,hd_get hgb]
    show¬heads0 S1 o0 (hd h r.1)
    rw[this];exact hhb)
   exact rd_of (fam_of (hg.trans hgb) (hgr.trans hr1)) a2 (cellsOf_get (hg.trans hgb))
 refine⟨n0,⟨v,h',.eff h h'⟩,r.ren (back ids c),_,_,_,F',labC st o0 (namesOf ids++U),fun n hn=>?_,hK r o' c' hR,⟨MM,fun t x hx=>k1 t x (Sh.keep t x hx),hsz,fun b hb=>MC.F0 b (Sh.FF b hb),fun b cs hb hrd=>(MC.evo.frz b (Sh.FF b hb)).trans hrd⟩,k2 _ _ hr,?_⟩
 ·unfold runOp
  rw[hp,hq,hal,he]
  simp only
  rw[acall_le hn _ _ _ _ hrun]
  rfl
 ·unfold labC
  split
  ·rename_i hs
   exact .effI hRaw (hst rfl _ _ _ _ _ _ hrun)
  ·split
   ·rename_i hns
    rw[hns]at hRaw
    exact .effG hRaw fun b hb=>MC.evo.keep b hb fun⟨k,y,q,_⟩=>by simp[look]at q
   ·exact .eff hRaw
end
end Go.M
