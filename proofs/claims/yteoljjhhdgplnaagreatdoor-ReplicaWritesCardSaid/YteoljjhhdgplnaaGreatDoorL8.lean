/-
  Part 8 of the library that the proof leans on.
-/
import Derived.Test.YteoljjhhdgplnaaGreatDoorL7
namespace Go.M
open Go
section
variable {T E:Env} {X:Cx} {ρ:Gh} {F:Nat→Prop} {o:Ob} {c:Nat} {af:AF} {f:Fr} {h:ah} {p:Oper} {K:OK}
theorem ee.cU (_:Mem X ρ F o c h) {v:TV} {x:Value} {h':ah} {ρ':Gh} {F':Nat→Prop} {o':Ob} {c':Nat} {ns:List Nat} (hp:aB E af p=none) (hq:bt E af p=none) (ha:aV E af p=none)
 (he:cH E X.base af p h=some (.val x,h')) (hN:Nx X ρ F o c h ρ' F' o' c' h') (hv:VR c' ρ' F' h' v x) (hr:Raw ρ o h ρ' o' h' ns) (hK:K v o' c' (.cU ns)):ee E X ρ F o c af h p K:=by
 refine⟨0,⟨x,h',.cU h h'⟩,v,o',c',ρ',F',.cU ns,fun n _=>?_,hK,hN,hv,.cU hr⟩;unfold dR;rw[hp,hq,ha,he]
theorem qq (H:Mem X ρ F o c h) {F1:Nat→Prop} {o1:Ob} (Sh:nf X ρ c h F o F1 o1) {S:Nat→Ft} (K1:MO X ρ F1 o1 c h S) {m:Nat} {y y':TO} {h':ah} (hl:look o1 m=some y) {x:Nat} (hhm:x∈cQ (S m))
 (same:∀z,z<h.size→hd h z≠x→h'.get z=h.get z):Raw ρ o h ρ (dZ o1 m y') h' [m]:=by
 intro n yn hn bc;have lR:n≠m:=by simpa using bc
 obtain⟨y1,k1,k2⟩:=Sh.wk n yn hn;refine⟨⟨y1,by rw[dF,if_neg lR];exact k1⟩,rfl,fun b hb=>?_⟩;obtain⟨q1,q2⟩:=Sh.mem.zT K1 k1 hb;have VT:hd h b≠x:=fun e=>by
  rw[e]at q2;exact lR (K1.eJ n m y1 y _ k1 hl q2 hhm)
 exact⟨same b q1 VT,fun cs hr=>ig H.wf same VT hr⟩
theorem BH (_:Mem X ρ F o c h) {F1:Nat→Prop} {o1:Ob} (S:nf X ρ c h F o F1 o1) {ρ':Gh} {F2:Nat→Prop} {o2:Ob} {c2:Nat} {h':ah} (M:Mem X ρ' F2 o2 c2 h') (hk:∀t x,VR c ρ F1 h t x→VR c2 ρ' F2 h' t x) (hF:∀b,F1 b→F2 b)
 (eY:h.size≤h'.size) (cE:∀b cs,F b→h.rd b=some cs→h'.rd b=some cs):Nx X ρ F o c h ρ' F2 o2 c2 h':=
 ⟨M,fun t x hx=>hk t x (S.bd t x hx),eY,fun b hb=>hF b (S.FF b hb),cE⟩
theorem FB {t:TV} {x:Value} (ho:wy t=true) (hv:VR c ρ F h t x):eF x=true:=by
 cases hv with
 |s hp=>cases x<;>simp[ar]at hp<;>rfl
 |tk hn nR=>cases x<;>simp[GZ]at nR;rfl
 |wp hn nR=>cases x<;>simp[Uj]at nR;rfl
 |j=>simp[wy]at ho
 |agg=>simp[wy]at ho
 |dg=>simp[wy]at ho
 |sv=>simp[wy]at ho
 |pv=>simp[wy]at ho
 |_=>rfl
theorem tQ:∀{l:List TV} {m:List Value},l.all wy=true→dh c ρ F h l m→m.all eF=true
 |[],m,_,H=>by rw[H.bz];rfl
 |t::l,m,ho,H=>by
  simp only[List.all_cons,Bool.and_eq_true]at ho;obtain⟨v,m',rfl,h1,h2⟩:=H.aH;simp only[List.all_cons,Bool.and_eq_true];exact⟨FB ho.1 h1,tQ ho.2 h2⟩
def Km (E:Env) (base:Nat) (t:TypeId) (a v:Value) (h:ah):Option (kb×ah):=(E.size t).bind fun n=>(gV a).bind fun p=>
      bp (Nat.beq v.cells.size n&&v.cells.toList.all eF)<|(h.rd p.1).bind fun cs=>(cF cs p.2 v.cells.toList).bind fun cs'=>(h.wr base p.1 cs').bind fun h'=>some (.val undef,h')
theorem BI {α:Type} {v1 v2 v3 Up xs:List α} {p:Nat} (h:cF v2 p xs=some Up):cF (v1++(v2++v3)) (v1.length+p) xs=some (v1++(Up++v3)):=by
 obtain⟨s1,s2,s3⟩:=cV h;obtain⟨r,hr⟩:=j4 (n:=v1.length+p) (l:=v1++(v2++v3)) (xs:=xs) (by simp;omega);rw[hr]
 congr 1
 rw[jc hr,jc h];rw[List.take_length_add_append,List.drop_length_add_append,List.take_append_of_le_length om,List.drop_append_of_le_length om,List.drop_append_of_le_length (by rw[List.length_drop];omega)];simp[List.append_assoc]
theorem cp.cF {base:Nat} {S:Ft} {l xs r:List TV} {m ys:List Value} {p:Nat} (H:cp c ρ F h base S l m) (hs:M.cF l p xs=some r) (hx:dh c ρ F h xs ys):∃m' S',M.cF m p ys=some m'∧cp c ρ F h base S' r m'∧S'.Sublist S:=by
 obtain⟨s1,s2,s3⟩:=cV hs;have hlen:=H.len;obtain⟨m',hm⟩:=j4 (n:=p) (l:=m) (xs:=ys) (by rw[←hx.1,←hlen];exact s1);obtain⟨S1,S2,S3,rfl,a1,a2,a3⟩:=H.part p xs.length;refine⟨m',S1++S3,hm,?_,(List.sublist_append_right S2 S3).append_left S1⟩;rw[jc hs,jc hm,←hx.1];exact a1.join ((cp.jx (base:=base) hx).join a3)
theorem vf {α:Type} {l:List α} {i:Nat} {e:α} (he:l[i]? =some e):l.set i e=l:=by
 refine List.ext_getElem? fun k=>?_;rw[List.getElem?_set];by_cases ek:i=k
 ·subst ek;rw[if_pos rfl,if_pos (List.getElem?_eq_some_iff.1 he).1,he]
 ·rw[if_neg ek]
theorem Hl (L:bR T E) (H:Mem X ρ F o c h) {t:TypeId} {a v:TV} {av vv:Value} (hw:Dq T t a v o c K) (ha:VR c ρ F h a av) (hv:VR c ρ F h v vv) (hp:aB E af p=none) (hq:bt E af p=none) (c9:aV E af p=none)
 (he:cH E X.base af p h=Km E X.base t av vv h):ee E X ρ F o c af h p K:=by
 unfold Dq at hw;split at hw
 ·exact hw.elim
 ·rename_i n hn;split at hw
  ·exact hw.elim
  ·rename_i hc;simp only[Bool.and_eq_true,beq_iff]at hc;obtain⟨⟨FC,hlen⟩,kf⟩:=hc;have qn:=g8 hv FC;have jt:=tQ kf qn;have eY:vv.cells.size=n:=by have:=qn.1;simp only[Array.length_toList]at this;omega
   have go:∀b q cs cs' h',av= .pointer (some ⟨b,q,none⟩)→h.rd b=some cs→cF cs q vv.cells.toList=some cs'→h.wr X.base b cs'=some h'→cH E X.base af p h=some (.val undef,h'):=by
    rintro b q cs cs' h' rfl h1 h2 h3;rw[he];unfold Km;simp only[L.size _ _ hn,Option.bind_some,gV,eY,jt,h1,h2,h3,bp];simp
   split at hw
   ·rename_i m q;split at hw
    ·rename_i cs hl;split at hw
     ·rename_i qV gC;obtain⟨S,K0⟩:=H.ex;have hO:=K0.bN m _ hl;generalize hS:S m=Sm at hO;cases hO with
      |cells hb hg ml hc=>
       rename_i Sq b aF csv;cases ha with
       |ptr bJ=>
        rw[hb]at bJ;cases bJ;have ft:=dq (bu hg hg) ml (au hg);obtain⟨VU,S',h1,h2,h3⟩:=hc.cF gC qn;have Qj:(b,true)∈S m:=by rw[hS];exact List.mem_cons_self
        have oJ:=K0.eD m _ b hl (dw Qj);have lS:=K0.AD m _ hl;rw[hS]at lS;obtain⟨n1,n2⟩:=List.nodup_cons.1 lS;have qj:((b,true)::S').Sublist ((b,true)::Sq):=h3.cons_cons _;have W:=zJ (cs':=VU) H.wf hg (bu hg hg);obtain⟨t',Xz,jl⟩:=W.self;obtain⟨M,hk⟩:=H.set K0 (y':=.cells qV) (S0:=(b,true)::S') hl Qj (fun p hp=>by rw[hS];exact qj.subset hp) (show(cQ _).Nodup from List.Sublist.nodup (qj.map Prod.fst) lS) W.size W.wf W.same W.cQ fun hm cE=>by
         refine .cells hb (aF:=b) (cs':=VU) ?_ (Nat.le_refl _) (h2.bd (T:=fun x=>x=b) H.wf W.same (fun _ h=>h) cE hm fun x hx e=>?_)
         ·obtain⟨c0,bC⟩:=bw W.c8;simp only at bC;rw[jl]at bC;rw[jl,Option.some.injEq,ew.cells.injEq]at*
          obtain⟨_,_,e3,e4⟩:=bC;exact⟨rfl,rfl,e3,e4⟩
         ·subst e;exact n1 ((h3.map Prod.fst).subset hx)
        refine ee.cU H hp hq c9 (go _ _ _ _ _ rfl ft h1 (Fs hg (bu hg hg) oJ.1 oJ.1)) (BH H (.refl H) M hk (fun _ h=>h) (by rw[W.size];exact Nat.le_refl _) fun b' cs' bJ jM=>ig H.wf W.same (K0.apart m _ _ b' hl Qj bJ) jM) (.j _)
         (qq H (.refl H) K0 hl (dw Qj) W.same) hw
     ·exact hw.elim
    ·exact hw.elim
   ·rename_i m i q
    -- a row of which each cell may name an object
    have row:∀{y:TO} {b f t0 eg aF z:Nat} {es:List (List TV)} {e e1:List TV} {Sq:Ft} {cs:List Value} {S:Nat→Ft},MO X ρ F o c h S→look o m=some y→S m=(f,true)::Sq→ρ m=some (.arr b z es.length)→h.get b=some (.cells cs f t0 eg)→h.c8 b=some (f,b,aF)→aF≤b→X.base≤f→0<z→cs.length=es.length*z→
     (∀e∈es,e.length=z)→(∀e∈es,∀t∈e,kM t=true)→i<es.length→e.length=z→av= .pointer (some ⟨b,i*z+q,none⟩)→cp c ρ F h X.base Sq (es.set i e).flatten cs→cF e q (ax v)=some e1→K .j (dZ o m (.bZ z es [(i,e1)])) c (.cU [m])→ee E X ρ F o c af h p K:=by
     intro y b f t0 eg aF z es e e1 Sq cs S K0 hl hS hb hg hf ml dy hz hlen kq bV hi Je Uq hc gC hw;obtain⟨S1,S2,S3,v1,v2,v3,rfl,rfl,a1,a2,a3⟩:=jz kq hi hc;obtain⟨Up,N0,h1,h2,h3⟩:=a2.cF gC qn;have e1l:v1.length=i*z:=by
      have h1:=a1.len;obtain⟨e0,he0⟩:∃e0,es[i]? =some e0:=⟨_,List.getElem?_eq_getElem hi⟩;have:=(eo kq he0).2;rw[Nat.add_mul]at this;rw[←h1,List.length_take];omega
     have VV:cF (v1++(v2++v3)) (i*z+q) vv.cells.toList=some (v1++(Up++v3)):=by rw[←e1l];exact BI h1
     have ft:=dq hf ml (au hg);have wz:(f,true)∈S m:=by rw[hS];exact List.mem_cons_self
     have oJ:=K0.eD m _ f hl (dw wz);have lS:=K0.AD m _ hl;rw[hS]at lS;obtain⟨n1,n2⟩:=List.nodup_cons.1 lS;have Qk:(S1++(N0++S3)).Sublist (S1++(S2++S3)):=(h3.append_right S3).append_left S1;have qj:((f,true)::(S1++(N0++S3))).Sublist ((f,true)::(S1++(S2++S3))):=Qk.cons_cons _;have Kn:X.base≤b:=by have:=H.wf.le _ _ _ _ _ hg;omega
     have W:=zJ (cs':=v1++(Up++v3)) H.wf hg hf;obtain⟨t',Xz,jl⟩:=W.self;have e1z:e1.length=z:=by rw[(cV gC).2.1];exact Je
     have E4:Up.length=v2.length:=(cV h1).2.1;obtain⟨M,hk⟩:=H.set K0 (y':=.bZ z es [(i,e1)]) (S0:=(f,true)::(S1++(N0++S3))) hl wz (fun p hp=>by rw[hS];exact qj.subset hp) (show(cQ _).Nodup from List.Sublist.nodup (qj.map Prod.fst) lS) W.size W.wf W.same W.cQ fun hm cE=>by
      refine .bZ hb jl W.c8 (Nat.le_refl _) dy hz (by rw[←hlen];simp[E4]) kq bV (fun p hp=>?_) ((nT kq hi a1 h2 a3).bd (T:=fun x=>x=f) H.wf W.same (fun _ h=>h) cE hm fun x hx e=>?_)
      ·simp only[List.mem_singleton]at hp;subst hp;exact⟨hi,e1z⟩
      ·subst e;exact n1 ((Qk.map Prod.fst).subset hx)
     refine ee.cU H hp hq c9 (go _ _ _ _ _ Uq ft VV (Fs hg hf Kn dy)) (BH H (.refl H) M hk (fun _ h=>h) (by rw[W.size];exact Nat.le_refl _) fun b' cs' bJ jM=>ig H.wf W.same (K0.apart m _ _ b' hl wz bJ) jM) (.j _)
      (qq H (.refl H) K0 hl (dw wz) W.same) hw
    split at hw
    ·rename_i l tI fS;split at hw
     ·rename_i z es hl;obtain⟨e,kq,hw⟩:=hw;split at hw
      ·rename_i e1 gC;obtain⟨F1,Sh,sv⟩:=nZ (ax v) H;have H1:=Sh.mem;have CU:=sv l _ fS qn;obtain⟨f1,f2⟩:=tP fS;obtain⟨b,z1,l1,hb,rfl⟩:=rG H1 hl rfl (Sh.bd _ _ ha);obtain⟨S,K1⟩:=H1.ex;have hO:=K1.bN m _ hl;generalize hS:S m=Sm at hO;cases hO with
       |nil bJ hz=>rw[hb]at bJ;cases bJ
       |arr bJ hg hf ml dy hz cb tz wQ kB hF=>
        rename_i f t0 eg aF cs;rw[hb]at bJ;cases bJ;have hE:ER c ρ F1 h z es cs:=⟨cb,tz,wQ,kB⟩;have ft:=dq hf ml (au hg);have hi:i<es.length:=(List.getElem?_eq_some_iff.1 kq).1;have Je:=tz e (List.mem_of_getElem? kq);obtain⟨s1,s2,s3⟩:=cV gC;have P4:vv.cells.toList.length=l.length:=CU.1.symm;have hle:(i+1)*z≤es.length*z:=Nat.mul_le_mul_right z hi;rw[Nat.add_mul]at hle;obtain⟨qV,zU⟩:=j4 (n:=i*z+q) (l:=cs) (xs:=vv.cells.toList) (by rw[cb,P4];omega);obtain⟨t1,t2,t3⟩:=cV zU;have wz:(f,true)∈S m:=by rw[hS];exact List.mem_cons_self
        have oJ:=K1.eD m _ f hl (dw wz);have Kn:X.base≤b:=by
         have:=H1.wf.le _ _ _ _ _ hg;omega
        have W:=zJ (cs':=qV) H.wf hg hf;obtain⟨t',Xz,jl⟩:=W.self;have VS:ER c ρ F1 h z (es.set i e1) qV:=by
         refine hE.setAt (i:=i) (l:=e1) (fun j=>?_) (by simp) hi (by rw[s2,Je]) (fun t ht=>?_) t2 (fun j t v q1 q2=>?_) (fun k hk=>?_)
         ·rw[List.getElem?_set];by_cases ej:i=j
          ·subst ej;rw[if_pos rfl,if_pos rfl,if_pos hi]
          ·rw[if_neg ej,if_neg (fun e=>ej e.symm)]
         ·obtain⟨j,hj⟩:=List.getElem?_of_mem ht;rw[s3]at hj;split at hj
          ·exact f1 t (List.mem_of_getElem? hj)
          ·exact wQ e (List.mem_of_getElem? kq) t (List.mem_of_getElem? hj)
         ·rw[s3]at q1;rw[t3]at q2;split at q1
          ·rename_i hj;rw[if_pos ⟨om,om⟩]at q2;exact CU.2 (j - q) t v q1 (by rw[←q2];congr 1;omega)
          ·rename_i hj;rw[if_neg om]at q2;exact kB i j e t v kq q1 q2
         ·rw[t3,if_neg];rw[Nat.add_mul]at hk;omega
        obtain⟨M,hk⟩:=H1.set K1 (y':=.arr z true (es.set i e1)) (S0:=[(f,true)]) hl wz (fun p hp=>by simp only[List.mem_singleton]at hp;subst hp;exact wz) (by simp[cQ]) W.size W.wf W.same W.cQ fun hm _=>
         OR.J3 (by simp[hb]) jl W.c8 (Nat.le_refl _) dy hz (VS.mono hm) (fun h=>by cases h)
        refine ee.cU H hp hq c9 (go _ _ _ _ _ rfl ft zU (Fs hg hf Kn dy)) (BH H Sh M hk (fun _ h=>h) (by rw[W.size];exact Nat.le_refl _) fun b' cs' bJ jM=>ig H.wf W.same (K1.apart m _ _ b' hl wz (Sh.FF _ bJ)) jM) (.j _)
         (qq H Sh K1 hl (dw wz) W.same) hw
      ·exact hw.elim
     ·exact hw.elim
    ·rename_i z es hl fS;obtain⟨e,kq,hw⟩:=hw;split at hw
     ·rename_i e1 gC;obtain⟨b,z1,l1,hb,Uq⟩:=rG H hl rfl ha;obtain⟨S,K0⟩:=H.ex;have hO:=K0.bN m _ hl;generalize hS:S m=Sm at hO;cases hO with
      |nil bJ hz=>rw[hb]at bJ;cases bJ
      |arr bJ hg hf ml dy hz cb tz wQ kB hF=>
       rw[hb]at bJ;cases bJ;have hi:i<es.length:=(List.getElem?_eq_some_iff.1 kq).1;refine row K0 hl hS hb hg hf ml dy hz cb tz (fun e he t ht=>?_) hi (tz e (List.mem_of_getElem? kq)) Uq (by rw[vf kq];exact cp.jx (fY cb tz kB)) gC hw;have:=wQ e he t ht;unfold kM;split<;>first|rfl |exact this
     ·exact hw.elim
    ·rename_i z es op hl;obtain⟨b,z1,l1,hb,Uq⟩:=rG H hl rfl ha;obtain⟨S,K0⟩:=H.ex;have hO:=K0.bN m _ hl;generalize hS:S m=Sm at hO;cases hO with
     |fD bJ hz=>rw[hb]at bJ;cases bJ
     |bZ bJ hg hf ml dy hz cb tz bV jb kB=>
      rw[hb]at bJ;cases bJ;unfold Fg at hw;split at hw
      ·obtain⟨e,kq,hw⟩:=hw;split at hw
       ·rename_i e1 gC;have hi:i<es.length:=(List.getElem?_eq_some_iff.1 kq).1;exact row K0 hl hS hb hg hf ml dy hz cb tz bV hi (tz e (List.mem_of_getElem? kq)) Uq (by rw[vf kq];exact kB) gC hw
       ·exact hw.elim
      ·rename_i j ej;obtain⟨o1,o2⟩:=jb (j,ej) (by simp);by_cases Uo:i=j
       ·subst Uo;have hw:=hw.1 rfl;simp only at hw;split at hw
        ·rename_i e1 gC;exact row K0 hl hS hb hg hf ml dy hz cb tz bV o1 o2 Uq kB gC hw
        ·exact hw.elim
       ·obtain⟨_,_,hw⟩:=hw.2 Uo;exact hw.elim
      ·obtain⟨_,_,hw⟩:=hw;exact hw.elim
    ·exact hw.elim
   ·exact hw.elim
def vg (E:Env) (base:Nat) (t:TypeId) (m k v:Value) (h:ah):Option (kb×ah):=(lx E base h t m k v).bind fun h'=>some (.val undef,h')
theorem kS (H:Mem X ρ F o c h) {F1:Nat→Prop} {o1:Ob} (Sh:nf X ρ c h F o F1 o1) {S:Nat→Ft} (K1:MO X ρ F1 o1 c h S) {n:Nat} {y y':TO} {b clock clock':Nat} {ev gS:List MapEntry} {Sq S':Ft} (hl:look o1 n=some y) (hS:S n=(b,true)::Sq) (hg:h.get b=some (.map ev clock))
 (qj:∀p∈S',p∈Sq) (Bm:(cQ S').Nodup) {x:Value} {v:TV} (hp:aB E af p=none) (hq:bt E af p=none) (c9:aV E af p=none) (he:cH E X.base af p h=some (.val x,h.put b (.map gS clock'))) (hv:∀c ρ F h,VR c ρ F h v x)
 (sO:∀h',(∀t v,VR c ρ F1 h t v→VR c ρ F1 h' t v)→(∀b',b'<h.size→¬(hd h b'=b)→h'.get b'=h.get b')→(∀b cs,F1 b→h.rd b=some cs→h'.rd b=some cs)→h'.get b=some (.map gS clock')→(∀x∈cQ S',x≠b)→OR c ρ F1 h' X.base n ((b,true)::S') y')
 (hK:K v (dZ o1 n y') c (.cU [n])):ee E X ρ F o c af h p K:=by
 have H1:=Sh.mem;have Qj:(b,true)∈S n:=by rw[hS];exact List.mem_cons_self
 have lS:=K1.AD n _ hl;rw[hS]at lS;obtain⟨n1,n2⟩:=List.nodup_cons.1 lS;have mD:∀x∈cQ S',x≠b:=fun x hx e=>by
  subst e;obtain⟨q,hq,e⟩:=List.mem_map.1 hx;exact n1 (List.mem_map.2 ⟨q,qj q hq,e⟩)
 have hdb:hd h b=b:=by simp[hd,hg]
 have dL:∀x,(h.put b (.map gS clock')).get x=if x=b then some (.map gS clock')else h.get x:=fun x=>ah.br _ _ _ _
 have same:∀x,x<h.size→hd h x≠b→(h.put b (.map gS clock')).get x=h.get x:=fun x _ hx=>by
  rw[dL,if_neg];intro e;subst e;exact hx hdb
 have RI:∀x,hd (h.put b (.map gS clock')) x=hd h x:=fun x=>by
  by_cases e:x=b
  ·subst e;rw[hdb];unfold hd;rw[dL,if_pos rfl]
  ·unfold hd;rw[dL,if_neg e]
 have EU:Wf (h.put b (.map gS clock')):=by
  have Jo:=H.wf.lt hg;refine⟨fun x hx=>?_,fun x cs f t th hx=>?_⟩
  ·rw[ah.size_put]at hx;rw[dL,if_neg om];exact H.wf.high x hx
  ·rw[dL]at hx;split at hx
   ·cases hx
   ·exact H.wf.le _ _ _ _ _ hx
 obtain⟨M,hk⟩:=H1.set K1 (y':=y') (S0:=(b,true)::S') hl Qj (fun p hp=>by
  rw[hS];rcases List.mem_cons.1 hp with rfl |hp
  ·exact List.mem_cons_self
  ·exact List.mem_cons_of_mem _ (qj p hp)) (List.nodup_cons.2 ⟨fun hx=>mD b hx rfl,Bm⟩) (ah.size_put _ _ _) EU same RI fun hm cE=>
  sO _ hm same cE (by rw[dL,if_pos rfl]) mD
 exact ee.cU H hp hq c9 he (BH H Sh M hk (fun _ h=>h) (by rw[ah.size_put];exact Nat.le_refl _) fun b' cs' bJ jM=>ig H.wf same (K1.apart n _ _ b' hl Qj (Sh.FF _ bJ)) jM) (hv _ _ _ _)
  (qq H Sh K1 hl (dw Qj) same) hK
theorem map_set (H:Mem X ρ F o c h) {F1:Nat→Prop} {o1:Ob} (Sh:nf X ρ c h F o F1 o1) {n kn:Nat} {es VQ:List (Value×TV)} {b clock clock':Nat} {ev gS:List MapEntry} (hl:look o1 n=some (.map kn es)) (hb:ρ n=some (.cX b)) (hg:h.get b=some (.map ev clock))
 (hE:rL c ρ F1 h kn VQ gS) (bU:sN gS clock') {x:Value} {v:TV} (hp:aB E af p=none) (hq:bt E af p=none) (c9:aV E af p=none) (he:cH E X.base af p h=some (.val x,h.put b (.map gS clock'))) (hv:∀c ρ F h,VR c ρ F h v x)
 (hK:K v (dZ o1 n (.map kn VQ)) c (.cU [n])):ee E X ρ F o c af h p K:=by
 obtain⟨S,K1⟩:=Sh.mem.ex;have hO:=K1.bN n _ hl;generalize hS:S n=Sm at hO;cases hO with
 |map bJ jl ql kB Jw=>
  rw[hb]at bJ;cases bJ;exact kS H Sh K1 (S':=[]) hl hS hg (by simp) (by simp[cQ]) hp hq c9 he hv (fun h' hm same cE Ko _=>.map hb Ko hE.1 (fun i e e' q1 q2=>let⟨r1,r2,r3,r4⟩:=hE.2 i e e' q1 q2;⟨r1,r2,r3,hm _ _ r4⟩) bU) hK
end
section
variable {T E:Env} {X:Cx} {ρ:Gh} {F:Nat→Prop} {o:Ob} {c:Nat} {af:AF} {f:Fr} {h:ah} {p:Oper} {K:OK}
theorem vh {kd:TypeDesc} {k:Value} {n:Nat} (hk:kindOk kd k n=true):∀{es:List (Value×TV)} {bD:List MapEntry} (i:Nat),rL c ρ F h n es bD→
 (Instr.findNow kd k bD i=some none∧(∀v,dc es k v=es++[(k,v)])∧pf es k=es)∨
 ∃j x,j<es.length∧Instr.findNow kd k bD i=some (some (i+j,x))∧(∀v,dc es k v=es.set j (k,v))∧pf es k=es.eraseIdx j
 |[],bD,i,H=>by rw[H.bz];exact .inl ⟨rfl,fun _=>rfl,rfl⟩
 |e::es,bD,i,H=>by
  obtain⟨e',m,rfl,h1,h2,h3,h4,h5⟩:=H.aH;unfold Instr.findNow;rw[h1,iC hk h2.2];cases hq:oG k e.1 with
  |true=>exact .inr ⟨0,e'.val,by simp,rfl,fun v=>by simp[dc,hq],by simp[pf,hq]⟩
  |false=>
   simp only
   rcases vh hk (i+1) h5 with⟨q1,q2,q3⟩|⟨j,x,q0,q1,q2,q3⟩
   ·exact .inl ⟨q1,fun v=>by simp[dc,hq,q2],by simp[pf,hq,q3]⟩
   ·exact .inr ⟨j+1,x,by simp;omega,by rw[q1];congr 3;omega,fun v=>by simp[dc,hq,q2],by simp[pf,hq,q3]⟩
theorem rL.mono {kn c':Nat} {ρ':Gh} {F':Nat→Prop} {h':ah} {es:List (Value×TV)} {ev:List MapEntry} (H:rL c ρ F h kn es ev) (hm:∀t v,VR c ρ F h t v→VR c' ρ' F' h' t v):rL c' ρ' F' h' kn es ev:=
 ⟨H.1,fun i e e' q1 q2=>let⟨r1,r2,r3,r4⟩:=H.2 i e e' q1 q2;⟨r1,r2,r3,hm _ _ r4⟩⟩
theorem rL.tR {kn:Nat} {es:List (Value×TV)} {ev:List MapEntry} (H:rL c ρ F h kn es ev) {k:Value} {v:TV} {x:Value} (hk:0<kn∧aQ k=kn) (hf:Bc v=true) (hv:VR c ρ F h v x) (b:Nat):rL c ρ F h kn (es++[(k,v)]) (ev++[{key:=k,val:=x,born:=b}]):=by
 refine⟨by simp[H.1],fun i e e' q1 q2=>?_⟩;by_cases hi:i<es.length
 ·rw[List.getElem?_append_left hi]at q1;rw[List.getElem?_append_left (by rw[←H.1];exact hi)]at q2;exact H.2 i e e' q1 q2
 ·rw[List.getElem?_append_right om]at q1;rw[List.getElem?_append_right (by rw[←H.1];omega),←H.1]at q2;have:i - es.length=0:=by
   rcases Nat.eq_zero_or_pos (i - es.length)with h0|h0
   ·exact h0
   ·rw[List.getElem?_eq_none (by simp;omega)]at q1;cases q1
  rw[this]at q1 q2;simp at q1 q2;subst q1;subst q2;exact⟨rfl,hk,hf,hv⟩
theorem rL.set {kn:Nat} {es:List (Value×TV)} {ev:List MapEntry} (H:rL c ρ F h kn es ev) {k:Value} {v:TV} {x:Value} (hk:0<kn∧aQ k=kn) (hf:Bc v=true) (hv:VR c ρ F h v x) (j:Nat):rL c ρ F h kn (es.set j (k,v)) (ev.modify j fun e=>{e with key:=k,val:=x}):=by
 refine⟨by simp[H.1],fun i e e' q1 q2=>?_⟩;rw[List.getElem?_set]at q1;rw[List.getElem?_modify]at q2;by_cases e0:j=i
 ·subst e0;rw[if_pos rfl]at q1;split at q1
  ·cases q1;cases hq:ev[j]? with
   |none=>rw[hq]at q2;simp at q2
   |some a=>rw[hq]at q2;simp at q2;subst q2;exact⟨rfl,hk,hf,hv⟩
  ·cases q1
 ·rw[if_neg e0]at q1;cases hq:ev[i]? with
  |none=>rw[hq]at q2;simp at q2
  |some a=>
   rw[hq]at q2;simp[e0]at q2;subst q2;exact H.2 i e _ q1 hq
theorem rL.erase {kn:Nat} {es:List (Value×TV)} {ev:List MapEntry} (H:rL c ρ F h kn es ev) (j:Nat):rL c ρ F h kn (es.eraseIdx j) (ev.eraseIdx j):=by
 refine⟨by rw[List.length_eraseIdx,List.length_eraseIdx,H.1],fun i e e' q1 q2=>?_⟩;rw[List.getElem?_eraseIdx]at q1 q2;split at q1
 ·rename_i bj;rw[if_pos bj]at q2;exact H.2 _ _ _ q1 q2
 ·rename_i bj;rw[if_neg bj]at q2;exact H.2 _ _ _ q1 q2
theorem sN.tR {ev:List MapEntry} {clock:Nat} (H:sN ev clock) {k v:Value}:sN (ev++[{key:=k,val:=v,born:=clock}]) (clock+1):=by
 refine⟨fun x hx=>?_,?_⟩
 ·rcases List.mem_append.1 hx with hx|hx
  ·have:=H.1 x hx;omega
  ·simp at hx;subst hx;simp
 ·rw[List.map_append,List.nodup_append];refine⟨H.2,by simp,fun a ha b hb=>?_⟩;obtain⟨x,hx,rfl⟩:=List.mem_map.1 ha;simp at hb;subst hb;have:=H.1 x hx;omega
theorem sN.modify {ev:List MapEntry} {clock:Nat} (H:sN ev clock) (j:Nat) {f:MapEntry→MapEntry} (hf:∀e,(f e).born=e.born):sN (ev.modify j f) clock:=by
 have h1:(ev.modify j f).map (·.born)=ev.map (·.born):=by
  apply List.ext_getElem?;intro i;rw[List.getElem?_map,List.getElem?_map,List.getElem?_modify];cases ev[i]? with
  |none=>simp
  |some e=>by_cases h:j=i<;>simp[h,hf]
 refine⟨fun x hx=>?_,by rw[h1];exact H.2⟩;have:x.born∈(ev.modify j f).map (·.born):=List.mem_map.2 ⟨x,hx,rfl⟩;rw[h1]at this;obtain⟨y,hy,e⟩:=List.mem_map.1 this;rw[←e];exact H.1 y hy
theorem sN.erase {ev:List MapEntry} {clock:Nat} (H:sN ev clock) (j:Nat):sN (ev.eraseIdx j) clock:=
 ⟨fun x hx=>H.1 x (List.mem_of_mem_eraseIdx hx),((List.eraseIdx_sublist ev j).map _).nodup H.2⟩
theorem Hm {v:TV} {x:Value} (hv:VR c ρ F h v x) (ho:okV v=true):cP v=eR x:=by
 cases hv with
 |j=>simp[okV,wy]at ho
 |dg=>simp[okV,wy]at ho
 |sv=>simp[okV,wy]at ho
 |pv=>simp[okV,wy]at ho
 |s hp=>cases x<;>first|rfl |simp[ar]at hp
 |tk _ h1=>cases x<;>first|rfl |simp[GZ]at h1
 |wp _ h1=>cases x<;>first|rfl |simp[Uj]at h1
 |_=>rfl
theorem vi {kd:TypeDesc} {k:Value} {n:Nat} {v w:TV} (hk:kindOk kd k n=true):∀{es:List (Value×TV)},dc (dc es k w) k v=dc es k v
 |[]=>by simp[dc,qp hk]
 |e::es=>by
  cases hq:oG k e.1 with
  |true=>simp[dc,hq,qp hk]
  |false=>simp[dc,hq,vi hk]
theorem gG.jk {base:Nat} {kd:TypeDesc} {k:Value} {n:Nat} (hk:kindOk kd k n=true) (oK:0<n∧aQ k=n) {v:TV} {x:Value} (hv:cp c ρ F h base [] (ax v) x.cells.toList) (ha:cP v=eR x) (b:Nat):∀{M:List (Value×TV)} {ev:List MapEntry} {S:Ft} (i:Nat),gG c ρ F h base n S M ev→
 (Instr.findNow kd k ev i=some none∧gG c ρ F h base n S (dc M k v) (ev++[{key:=k,val:=x,born:=b}]))∨
 ∃j y S',Instr.findNow kd k ev i=some (some (i+j,y))∧gG c ρ F h base n S' (dc M k v) (ev.modify j fun e=>{e with key:=k,val:=x})∧S'.Sublist S
 |[],ev,S,i,H=>by
  cases H;exact .inl ⟨rfl,gG.cons (e:=(k,v)) (S:=[]) (S':=[]) rfl oK ha hv .nil⟩
 |e::es,ev,S,i,H=>by
  cases H with
  |cons kr gB uh w9 hl=>
   rename_i Sa Sb e' m;unfold Instr.findNow;rw[kr,iC hk gB.2];cases hq:oG k e.1 with
   |true=>
    refine .inr ⟨0,e'.val,Sb,rfl,?_,List.sublist_append_right _ _⟩;simp only[dc,hq];exact gG.cons (e:=(k,v)) (S:=[]) rfl oK ha hv hl
   |false=>
    simp only[dc,hq];rcases gG.jk hk oK hv ha b (i+1) hl with⟨q1,q2⟩|⟨j,y,S',q1,q2,q3⟩
    ·exact .inl ⟨q1,.cons kr gB uh w9 q2⟩
    ·exact .inr ⟨j+1,y,Sa++S',by rw[q1];congr 3;omega,.cons kr gB uh w9 q2,q3.append_left _⟩
theorem gG.del {base:Nat} {kd:TypeDesc} {k:Value} {n:Nat} (hk:kindOk kd k n=true):∀{M:List (Value×TV)} {ev:List MapEntry} {S:Ft} (i:Nat),gG c ρ F h base n S M ev→
 (Instr.findNow kd k ev i=some none∧pf M k=M)∨
 ∃j y S',Instr.findNow kd k ev i=some (some (i+j,y))∧gG c ρ F h base n S' (pf M k) (ev.eraseIdx j)∧S'.Sublist S
 |[],ev,S,i,H=>by cases H;exact .inl ⟨rfl,rfl⟩
 |e::es,ev,S,i,H=>by
  cases H with
  |cons kr gB uh w9 hl=>
   rename_i Sa Sb e' m;unfold Instr.findNow;rw[kr,iC hk gB.2];cases hq:oG k e.1 with
   |true=>exact .inr ⟨0,e'.val,Sb,rfl,by simp only[pf,hq];exact hl,List.sublist_append_right _ _⟩
   |false=>
    simp only[pf,hq];rcases gG.del hk (i+1) hl with⟨q1,q2⟩|⟨j,y,S',q1,q2,q3⟩
    ·exact .inl ⟨q1,by rw[q2]⟩
    ·exact .inr ⟨j+1,y,Sa++S',by rw[q1];congr 3;omega,.cons kr gB uh w9 q2,q3.append_left _⟩
theorem BJ {k:Value} {e:Value×TV}:∀{es:List (Value×TV)},e∈pf es k→e∈es
 |[],h=>by simp[pf]at h
 |a::l,h=>by
  unfold pf at h;split at h
  ·exact List.mem_cons_of_mem _ h
  ·rcases List.mem_cons.1 h with rfl |h
   ·exact List.mem_cons_self
   ·exact List.mem_cons_of_mem _ (BJ h)
theorem wW (L:bR T E) (H:Mem X ρ F o c h) {t:TypeId} {m k v:TV} {mv kv vv:Value} (hw:pg T t m k v o c K) (hm:VR c ρ F h m mv) (hk:VR c ρ F h k kv) (hv:VR c ρ F h v vv) (hp:aB E af p=none) (hq:bt E af p=none) (c9:aV E af p=none)
 (he:cH E X.base af p h=vg E X.base t mv kv vv h):ee E X ρ F o c af h p K:=by
 unfold pg at hw;split at hw
 ·rename_i kt elem hd;split at hw
  ·rename_i kd wV gB;have Zh:=hk.de.1;subst Zh;split at hw
   ·rename_i n;have RV:∀{kn},kindOk kd kv kn=true→0<kn∧aQ kv=kn:=fun {kn} jd=>by
     unfold kindOk at jd;simp only[Bool.and_eq_true,beq_iff,aI]at jd;exact⟨jd.1.1,jd.2⟩
    have run:∀{kn b clock:Nat} {ev gS:List MapEntry} {VW:Nat},kindOk kd kv kn=true→mv= .map (some b)→X.base≤b→h.get b=some (.map ev clock)→
     (∃i,Instr.findNow kd kv ev 0=some i∧(match i with|some (i,_)=>gS=(ev.modify i fun e=>{e with key:=kv,val:=vv})∧VW=clock|none=>gS=ev++[{key:=kv,val:=vv,born:=clock}]∧VW=clock+1))→
     cH E X.base af p h=some (.val undef,h.put b (.map gS VW)):=by
     rintro kn b clock ev gS VW jd rfl bh hg ⟨i,hi,h2⟩;obtain⟨AA,Hj⟩:=ik jd;rw[he];unfold vg lx;rw[L.desc _ _ hd];simp only[Option.bind_some,L.desc _ _ gB];rw[az.2 bh,AA,Hj,hg];simp only[Bool.and_self,bp,hi,Option.bind_some];cases i with
     |none=>obtain⟨rfl,rfl⟩:=h2;rfl
     |some i=>obtain⟨rfl,rfl⟩:=h2;rfl
    -- entries that name objects
    have named:∀{S:Nat→Ft} {y:TO} {kn b clock:Nat} {ev:List MapEntry} {es M:List (Value×TV)} {Sq:Ft},MO X ρ F o c h S→look o n=some y→S n=(b,true)::Sq→ρ n=some (.cX b)→h.get b=some (.map ev clock)→sN ev clock→kindOk kd kv kn=true→okV v=true→mv= .map (some b)→
     (∀e∈es,∀t∈ax e.2,kM t=true)→gG c ρ F h X.base kn Sq M ev→dc M kv v=dc es kv v→K .j (dZ o n (.dY kn es [(kv,v)])) c (.cU [n])→ee E X ρ F o c af h p K:=by
     intro S y kn b clock ev es M Sq K0 hl hS hb hg bU jd FC XM bV hE hMe hw;have lS:=K0.AD n _ hl;rw[hS]at lS;obtain⟨n1,n2⟩:=List.nodup_cons.1 lS;have bh:X.base≤b:=(K0.eD n _ b hl (by rw[hS];exact List.mem_cons_self)).1;rcases hE.jk jd (RV jd) (cp.jx (g8 hv FC)) (Hm hv FC) clock 0 with⟨q1,q2⟩|⟨j,x,S',q1,q2,q3⟩
     ·rw[hMe]at q2;exact kS H (.refl H) K0 hl hS hg (fun _ h=>h) n2 hp hq c9 (run jd XM bh hg ⟨_,q1,rfl,rfl⟩) (fun _ _ _ _=>.j _) (fun h' hm same cE Ko mD=>.dY hb Ko bV (q2.bd (T:=fun x=>x=b) H.wf same (fun _ h=>h) cE hm mD) bU.tR) hw
     ·rw[hMe]at q2;exact kS H (.refl H) K0 hl hS hg (fun _ h=>q3.subset h) ((q3.map Prod.fst).nodup n2) hp hq c9 (run (gS:=ev.modify j fun e=>{e with key:=kv,val:=vv}) (VW:=clock) jd XM bh hg ⟨_,q1,by simp,rfl⟩) (fun _ _ _ _=>.j _) (fun h' hm same cE Ko mD=>.dY hb Ko bV (q2.bd (T:=fun x=>x=b) H.wf same (fun _ h=>h) cE hm mD) (bU.modify j fun _=>rfl)) hw
    split at hw
    ·rename_i kn es v' hl zd;split at hw
     ·rename_i jd;have FC:okV v=true:=by
       cases v<;>simp[JU,cE]at zd<;>rfl
      obtain⟨F1,Sh,sv⟩:=N5 H v FC;obtain⟨tM,fS⟩:=sv v' vv zd hv;obtain⟨S,K0⟩:=H.ex;have hO:=K0.bN n _ hl;have Nn:=fun x hx=>K0.eD n _ x hl hx;generalize S n=Sm at hO Nn;cases hO with
      |map hb hg hlen hc bU=>
       rename_i b clock ev;have hE:rL c ρ F1 h kn es ev:=rL.mono ⟨hlen,hc⟩ Sh.bd;cases hm with
       |mp bJ=>
        rw[hb]at bJ;cases bJ;obtain⟨y1,k1,k2⟩:=Sh.wk n _ hl;have:y1= .map kn es:=by cases y1<;>simp[gR]at k2;obtain⟨rfl,rfl⟩:=k2;rfl
        subst this;have bh:X.base≤b:=(Nn b List.mem_cons_self).1;rcases vh jd 0 hE with⟨q1,q2,q3⟩|⟨j,x,q0,q1,q2,q3⟩
        ·refine map_set H Sh k1 hb hg (hE.tR (RV jd) fS tM clock) bU.tR hp hq c9 (run jd rfl bh hg ⟨_,q1,rfl,rfl⟩) (fun _ _ _ _=>.j _) ?_;rw[q2]at hw;exact hw
        ·refine map_set H Sh k1 hb hg (hE.set (RV jd) fS tM j) (bU.modify j fun _=>rfl) hp hq c9 (run jd rfl bh hg ⟨_,q1,by simp,rfl⟩) (fun _ _ _ _=>.j _) ?_;rw[q2]at hw;exact hw
     ·exact hw.elim
    ·rename_i kn es hl zd;split at hw
     ·rename_i Ql;simp only[Bool.and_eq_true]at Ql;obtain⟨jd,FC⟩:=Ql;obtain⟨S,K0⟩:=H.ex;have hO:=K0.bN n _ hl;generalize hS:S n=Sm at hO;cases hO with
      |map hb hg hlen hc bU=>
       cases hm with
       |mp bJ=>
        rw[hb]at bJ;cases bJ;have qn:=CR.RL (base:=X.base) hlen hc;exact named K0 hl hS hb hg bU jd FC rfl (qn.Vt _ _ _ rfl) (gG.qg qn _ _ _ rfl) rfl hw
     ·exact hw.elim
    ·rename_i kn es hl;split at hw
     ·rename_i Ql;simp only[Bool.and_eq_true]at Ql;obtain⟨jd,FC⟩:=Ql;obtain⟨S,K0⟩:=H.ex;have hO:=K0.bN n _ hl;generalize hS:S n=Sm at hO;cases hO with
      |dY hb hg bV hc bU=>
       cases hm with
       |mp bJ=>
        rw[hb]at bJ;cases bJ;exact named K0 hl hS hb hg bU jd FC rfl bV hc rfl hw
     ·exact hw.elim
    ·rename_i kn es k' w hl;split at hw
     ·rename_i Ql;simp only[Bool.and_eq_true]at Ql;obtain⟨jd,FC⟩:=Ql;obtain⟨rfl,hw⟩:=hw;obtain⟨S,K0⟩:=H.ex;have hO:=K0.bN n _ hl;generalize hS:S n=Sm at hO;cases hO with
      |dY hb hg bV hc bU=>
       cases hm with
       |mp bJ=>
        rw[hb]at bJ;cases bJ;exact named K0 hl hS hb hg bU jd FC rfl bV hc (vi jd) hw
     ·exact hw.elim
    ·exact hw.elim
   ·exact hw.elim
  ·exact hw.elim
 ·exact hw.elim
theorem DO (L:bR T E) (H:Mem X ρ F o c h) {t:TypeId} {m k:TV} {mv kv:Value} (hw:zz T t m k o c K) (hm:VR c ρ F h m mv) (hk:VR c ρ F h k kv) (hp:aB E af p=none) (hq:bt E af p=none) (c9:aV E af p=none)
 (he:cH E X.base af p h=(pJ E X.base h t mv kv).bind fun r=>some (.val r.1,r.2)):ee E X ρ F o c af h p K:=by
 have N7:∀(c:Nat) (ρ:Gh) (F:Nat→Prop) (h:ah),VR c ρ F h (.dg []) (.tuple #[]):=fun _ _ _ _=>.gF .nil;unfold zz at hw;split at hw
 ·rename_i kt elem hd;split at hw
  ·rename_i kd wV n gB;have Zh:=hk.de.1;subst Zh;have run:∀{kn b clock:Nat} {ev gS:List MapEntry},kindOk kd kv kn=true→mv= .map (some b)→X.base≤b→h.get b=some (.map ev clock)→(∃i,Instr.findNow kd kv ev 0=some i∧gS=(match i with|some (i,_)=>ev.eraseIdx i|none=>ev))→cH E X.base af p h=some (.val (.tuple #[]),h.put b (.map gS clock)):=by
    rintro kn b clock ev gS jd rfl bh hg ⟨i,hi,rfl⟩;obtain⟨AA,Hj⟩:=ik jd;rw[he];unfold pJ;rw[L.desc _ _ hd];simp only[Option.bind_some,L.desc _ _ gB];rw[az.2 bh,AA,Hj,hg];simp only[Bool.and_self,bp,hi,Option.bind_some];cases i<;>rfl
   obtain⟨S,K0⟩:=H.ex;split at hw
   ·rename_i kn es hl;split at hw
    ·rename_i jd;have hO:=K0.bN n _ hl;have Nn:=fun x hx=>K0.eD n _ x hl hx;generalize S n=Sm at hO Nn;cases hO with
     |map hb hg hlen hc bU=>
      rename_i b clock ev;have hE:rL c ρ F h kn es ev:=⟨hlen,hc⟩;cases hm with
      |mp bJ=>
       rw[hb]at bJ;cases bJ;have bh:X.base≤b:=(Nn b List.mem_cons_self).1;rcases vh jd 0 hE with⟨q1,q2,q3⟩|⟨j,x,q0,q1,q2,q3⟩
       ·refine map_set H (.refl H) hl hb hg hE bU hp hq c9 (run (gS:=ev) jd rfl bh hg ⟨_,q1,rfl⟩) N7 ?_;rw[q3]at hw;exact hw
       ·refine map_set H (.refl H) hl hb hg (hE.erase j) (bU.erase j) hp hq c9 (run (gS:=ev.eraseIdx j) jd rfl bh hg ⟨_,q1,by simp⟩) N7 ?_;rw[q3]at hw;exact hw
    ·exact hw.elim
   ·rename_i kn es hl;split at hw
    ·rename_i jd;have hO:=K0.bN n _ hl;have Nn:=fun x hx=>K0.eD n _ x hl hx;have lS:=K0.AD n _ hl;generalize hS:S n=Sm at hO Nn lS;cases hO with
     |dY hb hg bV hc bU=>
      rename_i Sq b clock ev;cases hm with
      |mp bJ=>
       rw[hb]at bJ;cases bJ;have bh:X.base≤b:=(Nn b List.mem_cons_self).1;obtain⟨n1,n2⟩:=List.nodup_cons.1 lS;have hE:gG c ρ F h X.base kn Sq es ev:=hc;rcases hE.del jd 0 with⟨q1,q2⟩|⟨j,x,S',q1,q2,q3⟩
       ·rw[q2]at hw;exact kS H (.refl H) K0 hl hS hg (fun _ h=>h) n2 hp hq c9 (run (gS:=ev) jd rfl bh hg ⟨_,q1,rfl⟩) N7 (fun h' hm same cE Ko mD=>.dY hb Ko bV (hE.bd (T:=fun x=>x=b) H.wf same (fun _ h=>h) cE hm mD) bU) hw
       ·exact kS H (.refl H) K0 hl hS hg (fun _ h=>q3.subset h) ((q3.map Prod.fst).nodup n2) hp hq c9 (run (gS:=ev.eraseIdx j) jd rfl bh hg ⟨_,q1,by simp⟩) N7 (fun h' hm same cE Ko mD=>.dY hb Ko (fun e he=>bV e (BJ he)) (q2.bd (T:=fun x=>x=b) H.wf same (fun _ h=>h) cE hm mD) (bU.erase j)) hw
    ·exact hw.elim
   ·exact hw.elim
  ·exact hw.elim
 ·exact hw.elim
theorem xK (H:Mem X ρ F o c h) {t:TypeId} {n kn:Nat} {y:TO} {mv:Value} (hl:look o n=some y) (hy:(∃es,y= .map kn es)∨∃es op,y= .dY kn es op) (hw:K (.dg []) (dZ o n (.map kn [])) c (.cU [n])) (hm:VR c ρ F h (.mp n) mv) (hp:aB E af p=none) (hq:bt E af p=none) (c9:aV E af p=none)
 (hd:(E.desc t).isSome=true) (he:cH E X.base af p h=((E.desc t).bind fun _=>oS E X.base h t mv).bind fun r=>some (.val r.1,r.2)):ee E X ρ F o c af h p K:=by
 obtain⟨S,K0⟩:=H.ex;have hO:=K0.bN n _ hl;have Nn:=fun x hx=>K0.eD n _ x hl hx;obtain⟨d,hd⟩:=Option.isSome_iff_exists.1 hd;have main:∀{b clock:Nat} {ev:List MapEntry} {Sq:Ft},S n=(b,true)::Sq→ρ n=some (.cX b)→h.get b=some (.map ev clock)→ee E X ρ F o c af h p K:=by
  intro b clock ev Sq hS hb hg;cases hm with
  |mp bJ=>
   rw[hb]at bJ;cases bJ;have bh:X.base≤b:=(Nn b (by rw[hS];exact List.mem_cons_self)).1;refine kS H (.refl H) K0 (S':=[]) (gS:=[]) (clock':=clock) hl hS hg (by simp) (by simp[cQ]) hp hq c9 ?_ (fun _ _ _ _=>.gF .nil) (fun h' hm same cE Ko mD=>.map hb Ko rfl (fun i e e' q=>by simp at q) ⟨by simp,by simp⟩) hw;rw[he,hd];unfold oS;simp only[Option.bind_some];rw[az.2 bh,hg];rfl
 generalize hS:S n=Sm at hO;rcases hy with⟨es,rfl⟩|⟨es,op,rfl⟩
 ·cases hO with
  |map hb hg hlen hc bU=>exact main hS hb hg
 ·cases hO with
  |dY hb hg bV hc bU=>exact main hS hb hg
theorem ER.take {z:Nat} {es:List (List TV)} {cs:List Value} (A:ER c ρ F h z es cs) {i:Nat} (hi:i≤es.length):ER c ρ F h z (es.take i) (cs.take (i*z)):=by
 have hle:i*z≤es.length*z:=Nat.mul_le_mul_right z hi;refine⟨by rw[List.length_take,List.length_take,A.len,Nat.min_eq_left hi,Nat.min_eq_left hle],fun e he=>A.each e (List.mem_of_mem_take he),fun e he=>A.fz e (List.mem_of_mem_take he),fun a b e t v q1 q2 q3=>?_⟩;rw[List.getElem?_take]at q1 q3;split at q1
 ·split at q3
  ·exact A.cell a b e t v q1 q2 q3
  ·cases q3
 ·cases q1
theorem DP (L:bR T E) (H:Mem X ρ F o c h) {t elem:TypeId} {m i z:Nat} {zv xv:Value} {zs:List TV} {es:List (List TV)} (hd:T.desc t=some (.slice elem)) (hz:T.zero elem=some zv) (hl:look o m=some (.arr z true es)) (ib:kh zv=some zs)
 (hc:(zs.all fz&&Nat.beq zs.length z&&zs.all wy)=true) (hw:(es.length≤i→K (.dg []) o c (.cU [m]))∧(i<es.length→K (.dg []) (dZ o m (.arr z true (es.take i++List.replicate (es.length - i) zs))) c (.cU [m])))
 (hx:VR c ρ F h (.sv m i) xv) (hp:aB E af p=none) (hq:bt E af p=none) (c9:aV E af p=none)
 (he:cH E X.base af p h=((E.desc t).bind fun _=>oS E X.base h t xv).bind fun r=>some (.val r.1,r.2)):ee E X ρ F o c af h p K:=by
 simp only[Bool.and_eq_true,beq_iff]at hc;obtain⟨⟨fS,G7⟩,sK⟩:=hc;obtain⟨iJ,mi⟩:=L.zero _ _ hz;have o4:dh c ρ F h zs zv.cells.toList:=fj mi ib;have Zi:∀a cap,xv= .slice a 0 cap→(a=none∨∃b q z1,a=some ⟨b,q,some z1⟩)→es.length≤i→ee E X ρ F o c af h p K:=by
  rintro a cap rfl ha hle;refine ee.cU H (v:=.dg []) (x:=.tuple #[]) hp hq c9 ?_ (.refl H) (.gF .nil) (Raw.refl [m]) (hw.1 hle);rw[he,L.desc _ _ hd];rcases ha with rfl |⟨b,q,z1,rfl⟩<;>rfl
 obtain⟨S,K0⟩:=H.ex;have hO:=K0.bN m _ hl;generalize hS:S m=Sm at hO;cases hx with
 |sv hn h1 ha h0=>
  cases hO with
  |nil hb AH=>
   rcases h0 _ hb with rfl |⟨b,o',z',cap,rfl⟩
   ·exact Zi _ _ rfl (.inl rfl) (Nat.zero_le _)
   ·exact Zi _ _ rfl (.inr ⟨_,_,_,rfl⟩) (Nat.zero_le _)
  |arr hb hg hf ml dy AH cb tz wQ kB hF=>
   rename_i b f t0 eg aF cs;obtain⟨q,cap,rfl,hq'⟩:=ha _ _ _ hb;by_cases hi:i<es.length
   ·obtain rfl:=hq' hi;have hE:ER c ρ F h z es cs:=⟨cb,tz,wQ,kB⟩;have ft:=dq hf ml (au hg);have hR:=ER.replicate o4 G7 fS (es.length - i);have Zj:=hR.len;rw[List.length_replicate]at Zj;have hiz:i*z+(es.length - i)*z=es.length*z:=by rw[←Nat.add_mul];congr 1;omega
    obtain⟨qV,zU⟩:=j4 (n:=i*z) (l:=cs) (xs:=aG zv.cells.toList (es.length - i)) (by rw[cb,Zj];omega);have Zk:qV=cs.take (i*z)++aG zv.cells.toList (es.length - i):=by
     rw[jc zU,List.drop_drop,List.drop_eq_nil_of_le (by rw[cb,Zj];omega),List.append_nil]
    have VS:ER c ρ F h z (es.take i++List.replicate (es.length - i) zs) qV:=by rw[Zk];exact(hE.take (Nat.le_of_lt hi)).append hR
    have wz:(f,true)∈S m:=by rw[hS];exact List.mem_cons_self
    have oJ:=K0.eD m _ f hl (dw wz);have Kn:X.base≤b:=by have:=H.wf.le _ _ _ _ _ hg;omega
    have W:=zJ (cs':=qV) H.wf hg hf;obtain⟨t',Xz,jl⟩:=W.self;have EZ:(es.take i++List.replicate (es.length - i) zs).length=es.length:=by simp;omega
    obtain⟨M,hk⟩:=H.set K0 (y':=.arr z true (es.take i++List.replicate (es.length - i) zs)) (S0:=[(f,true)]) hl wz (fun p hp=>by simp only[List.mem_singleton]at hp;subst hp;exact wz) (by simp[cQ]) W.size W.wf W.same W.cQ fun hm _=>
     OR.J3 (by rw[EZ];exact hb) jl W.c8 (Nat.le_refl _) dy AH (VS.mono hm) (fun h=>by cases h)
    refine ee.cU H (v:=.dg []) (x:=.tuple #[]) hp hq c9 ?_ (BH H (.refl H) M hk (fun _ h=>h) (by rw[W.size];exact Nat.le_refl _) fun b' cs' bJ jM=>ig H.wf W.same (K0.apart m _ _ b' hl wz bJ) jM) (.gF .nil)
     (qq H (.refl H) K0 hl (dw wz) W.same) (hw.2 hi)
    rw[he,L.desc _ _ hd];unfold oS;simp only[Option.bind_some];have oA:Nat.beq (es.length - i) 0=false:=by
     cases Ze:Nat.beq (es.length - i) 0 with
     |false=>rfl
     |true=>have:=beq_iff.1 Ze;omega
    rw[oA];simp only[cond_false,L.desc _ _ hd,Option.bind_some,iJ,tQ sK o4,bp,ft,zU,Fs hg hf Kn dy]
   ·exact Zi _ _ (by rw[show es.length - i=0 by omega]) (.inr ⟨_,_,_,rfl⟩) om
end
section
variable {T E:Env} {X:Cx} {ρ:Gh} {F:Nat→Prop} {o:Ob} {c:Nat} {af:AF} {f:Fr} {h:ah} {p:Oper} {K:OK}
theorem size_le {k bytes:Nat} (hk:k<1048576) (hb:bytes<1048576):(k+1)*(bytes+1)≤1099511627776:=by
 have h1:(k+1)*(bytes+1)≤1048576*1048576:=Nat.mul_le_mul hk hb;exact h1
theorem Mem.N8 (H:Mem X ρ F o c h) {z:Nat} {y:TO} (sO:∀(c:Nat) (ρ:Gh) (F:Nat→Prop) (n:Nat),ρ n=some (.nil z)→OR c ρ F h X.base n [] y):Mem X (bX ρ c (some (.nil z))) F ((c,y)::o) (c+1) h∧∀t v,VR c ρ F h t v→VR (c+1) (bX ρ c (some (.nil z))) F h t v:=by
 obtain⟨S,K⟩:=H.ex
 refine H.change K (fun _=>False) c y [] (Nat.le_refl _) H.wf (fun _ hf=>hf.elim) (fun _ _ _=>rfl) (fun _ _ _ hr=>hr) (fun _ _=>rfl) (fun _ hb=>hb) (fun _ hb hn=>absurd hb hn) om (H.Bn _) (H.Bo _) (H.Bp _)
  (fun m y' bc hl=>?_) (fun y' hl=>?_) (sO _ _ _ _ (aD _ _ _)) (by simp[cQ]) (by simp[cQ]) (by simp)
 ·rw[aC,if_neg (fun e=>bc e.symm)]at hl;exact⟨hl,aW _ _ bc,fun _ _ hf=>hf.elim⟩
 ·rw[aC,if_pos rfl,Option.some.injEq]at hl;exact hl.symm
theorem Mem.Qm (H:Mem X ρ F o c h) {S:Nat→Ft} (K:MO X ρ F o c h S) {m z l b0:Nat} {y y':TO} {S0:Ft} {h':ah} (hl:look o m=some y) (hb:ρ m=some (.arr b0 z l)) (eY:h.size≤h'.size) (EU:Wf h') (same:∀b,b<h.size→h'.get b=h.get b)
 (cE:∀b cs,F b→h.rd b=some cs→h'.rd b=some cs) (qj:∀p∈S0,p∈S m∨p.1=h.size) (Bm:(cQ S0).Nodup) (bj:∀x∈cQ S0,x<h'.size) (fl:Bool) (pQ:fl=true→(h'.rd h.size).isSome=true∧hd h' h.size=h.size∧∀x,(x,true)∈S0→h.size≠x) {q:Loc} (_:∀b,q≠ .cX b)
 (sO:(∀t v,VR c ρ F h t v→VR (c+1) (bX (bX ρ m none) c (some q)) (fun x=>F x∨(fl=true∧x=h.size)) h' t v)→OR (c+1) (bX (bX ρ m none) c (some q)) (fun x=>F x∨(fl=true∧x=h.size)) h' X.base c S0 y'):
 Mem X (bX (bX ρ m none) c (some q)) (fun x=>F x∨(fl=true∧x=h.size)) ((c,y')::eI o m) (c+1) h'∧∀t v,VR c ρ F h t v→VR (c+1) (bX (bX ρ m none) c (some q)) (fun x=>F x∨(fl=true∧x=h.size)) h' t v:=by
 have hm:=H.lt hl;have eK:∀n,n≠m→n≠c→bX (bX ρ m none) c (some q) n=ρ n:=fun n h1 h2=>by rw[aW _ _ h2,aW _ _ h1]
 have hA:∀n l',n<c→bX (bX ρ m none) c (some q) n=some l'→ρ n=some l':=fun n l' hn h1=>by
  by_cases e:n=m
  ·subst e;rw[aW _ _ om,aD]at h1;cases h1
  ·rwa [eK n e om]at h1
 have hB:∀n b',ρ n=some (.cX b')→bX (bX ρ m none) c (some q) n=some (.cX b'):=fun n b' hn=>by
  have:=H.names _ _ hn;by_cases e:n=m
  ·subst e;rw[hb]at hn;cases hn
  ·rwa [eK n e om]
 have Bq:∀t v,VR c ρ F h t v→VR (c+1) (bX (bX ρ m none) c (some q)) (fun x=>F x∨(fl=true∧x=h.size)) h' t v:=fun t v=>VR.mono om hA hB (fun _ hb=>.inl hb) cE;have sP:∀n y1,n≠c→look ((c,y')::eI o m) n=some y1→n≠m∧look o n=some y1:=fun n y bc hy=>by
  rw[aC,if_neg (fun e=>bc e.symm),cZ]at hy;by_cases e:n=m
  ·rw[if_pos e]at hy;cases hy
  ·rw[if_neg e]at hy;exact⟨e,hy⟩
 have M8:∀x∈cQ S0,x∈cQ (S m)∨x=h.size:=fun x hx=>by
  obtain⟨p,hp,rfl⟩:=List.mem_map.1 hx;rcases qj p hp with h1|e
  ·exact .inl (List.mem_map.2 ⟨p,h1,rfl⟩)
  ·exact .inr e
 refine H.change K (fun _=>False) c y' S0 eY EU (fun _ hf=>hf.elim) (fun b hb _=>same b hb) cE (fun b hb=>by unfold hd;rw[same b hb]) (fun _ hb=>.inl hb) (fun b hb hn=>?_) om hA hB (fun n l' hn=>?_)
  (fun n y' bc hy=>?_) (fun y' hy=>?_) (sO Bq) Bm (fun x hx=>?_) fun x b hx hb=>?_
 ·rcases hb with hb|⟨hf,rfl⟩
  ·exact absurd hb hn
  ·obtain⟨g1,g2,g3⟩:=pQ hf;refine⟨g1,fun n y1 x bc hy hx e=>?_,fun x hx=>by rw[g2];exact g3 x hx,.inr (by rw[g2];exact H.my.size)⟩;rw[g2]at e;subst e;have:=(K.eD n y1 _ (sP n y1 bc hy).2 (dw hx)).2.1;omega
 ·by_cases e:n=c
  ·omega
  ·by_cases e2:n=m
   ·omega
   ·rw[eK n e2 e]at hn;have:=H.names _ _ hn;omega
 ·obtain⟨h1,h2⟩:=sP n y' bc hy;exact⟨h2,eK n h1 bc,fun _ _ hf=>hf.elim⟩
 ·rw[aC,if_pos rfl,Option.some.injEq]at hy;exact hy.symm
 ·rcases M8 x hx with h1|rfl
  ·obtain⟨q1,q2,q3⟩:=K.eD m y x hl h1;refine⟨q1,bj x hx,q3,fun n y1 bc hy hh=>?_⟩;obtain⟨h3,h4⟩:=sP n y1 bc hy;exact h3 (K.eJ n m y1 _ _ h4 hl hh h1)
  ·refine⟨H.lq,bj _ hx,.inr H.my.size,fun n y1 bc hy hh=>?_⟩;obtain⟨h3,h4⟩:=sP n y1 bc hy;have:=(K.eD n y1 _ h4 hh).2.1;omega
 ·rcases qj _ hx with h1|e
  ·exact K.apart m y x b hl h1 hb
  ·simp only at e;subst e;have:=H.wf.Fm b;have:=H.Fo hb;omega
theorem OR.named {base m n c':Nat} {ρ':Gh} {S:Ft} {y:TO} (W:Wf h) (H:OR c ρ F h base m S y) (hm:∀t v,VR c ρ F h t v→VR c' ρ' F h t v) (eK:ρ' n=ρ m):OR c' ρ' F h base n S y:=by
 have kk:∀{S:Ft} {l:List TV} {vs:List Value},cp c ρ F h base S l vs→cp c' ρ' F h base S l vs:=fun hc=>hc.bd (T:=fun _=>False) W (fun _ _ _=>rfl) (fun _ h=>h) (fun _ _ _ h=>h) hm (fun _ _ hf=>hf.elim);cases H with
 |cells hb hg ht hc=>exact .cells (eK.trans hb) hg ht (kk hc)
 |map hb hg hl hc bU=>exact .map (eK.trans hb) hg hl (fun i e e' h1 h2=>let⟨q1,q2,q3,q4⟩:=hc i e e' h1 h2;⟨q1,q2,q3,hm _ _ q4⟩) bU
 |nil hb hz=>exact .nil (eK.trans hb) hz
 |arr hb hg hf ht dy hz hl he fS hc hF=>exact .arr (eK.trans hb) hg hf ht dy hz hl he fS (fun i j e t v q1 q2 q3=>hm _ _ (hc i j e t v q1 q2 q3)) hF
 |fD hb hz=>exact .fD (eK.trans hb) hz
 |bZ hb hg hf ht dy hz hl he bV jb hc=>exact .bZ (eK.trans hb) hg hf ht dy hz hl he bV jb (kk hc)
 |dY hb hg bV hc bU=>exact .dY (eK.trans hb) hg bV (hc.bd (T:=fun _=>False) W (fun _ _ _=>rfl) (fun _ h=>h) (fun _ _ _ h=>h) hm (fun _ _ hf=>hf.elim)) bU
 |fM hb hg=>exact .fM (eK.trans hb) hg
theorem Mem.rename (H:Mem X ρ F o c h) {m z:Nat} {y:TO} (hl:look o m=some y) {b l:Nat} (hb:ρ m=some (.arr b z l)):
 Mem X (bX (bX ρ m none) c (some (.arr b z l))) F ((c,y)::eI o m) (c+1) h∧∀t v,VR c ρ F h t v→VR (c+1) (bX (bX ρ m none) c (some (.arr b z l))) F h t v:=by
 obtain⟨S,K⟩:=H.ex;have e:(fun x=>F x∨(false=true∧x=h.size))=F:=by funext x;simp
 have:=H.Qm K (S0:=S m) (y':=y) (q:=.arr b z l) hl hb (Nat.le_refl _) H.wf (fun _ _=>rfl) (fun _ _ _ h=>h) (fun p hp=>.inl hp) (K.AD m y hl) (fun x hx=>(K.eD m y x hl hx).2.1) false (fun h=>by cases h) (by simp) fun hm=>by
  rw[e]at hm ⊢;exact(K.bN m y hl).named H.wf hm ((aD _ _ _).trans hb.symm)
 rwa [e]at this
theorem ng (H:Mem X ρ F o c h) {x:TV} {zx n:Nat} {xs:List (List TV)} {op:List (Nat×List TV)} (he:Vn o x=some (zx,xs,op)) (hz:zx=n∨zx=0∧op=[]) (jb:∀p∈op,p.2.all dM=true) {xv:Value} (hx:VR c ρ F h x xv):
 kC xv=some xs.length∧(∀p∈op,p.1<xs.length∧p.2.length=n)∧(∀e∈xs,∀t∈e,fz t=true)∧(xs=[]∨∃new,eB h n xs.length xv=some new∧(op=[]→ER c ρ F h n xs new)∧new.length=xs.length*n∧(∀e∈xs,e.length=n)∧dh c ρ F h (cd xs op).flatten new):=by
 have done:∀{xs:List (List TV)} {new:List Value},ER c ρ F h n xs new→eB h n xs.length xv=some new→kC xv=some xs.length→kC xv=some xs.length∧(∀p∈([]:List (Nat×List TV)),p.1<xs.length∧p.2.length=n)∧(∀e∈xs,∀t∈e,fz t=true)∧(xs=[]∨∃new,eB h n xs.length xv=some new∧(([]:List (Nat×List TV))=[]→ER c ρ F h n xs new)∧new.length=xs.length*n∧(∀e∈xs,e.length=n)∧dh c ρ F h (cd xs []).flatten new):=
  fun E h1 h2=>⟨h2,by simp,E.fz,.inr ⟨_,h1,fun _=>E,E.len,E.each,fY E.len E.each E.cell⟩⟩
 unfold Vn at he;split at he
 ·rename_i m;split at he
  ·rename_i z w es hl;cases he;obtain⟨Sm,hO⟩:=H.bN hl;cases hx with
   |tk hn nR ha h0=>
    cases hO with
    |nil hb iJ=>
     rcases h0 _ hb with rfl |⟨b,o',cs,q1,q2,q3,q4,rfl⟩
     ·exact⟨rfl,by simp,by simp,.inl rfl⟩
     ·exact⟨rfl,by simp,by simp,.inl rfl⟩
    |arr hb hg hf ht dy iJ hlen he fS hc hF=>
     rename_i b f t0 eg aF cs;obtain⟨cap,h1,rfl⟩:=ha _ _ _ hb;have NY:zx=n:=by omega
     subst NY;refine done ⟨hlen,he,fS,hc⟩ ?_ rfl;simp only[eB,M.ai,dq hf ht (au hg),Option.bind_some,List.drop_zero,aM];rw[←hlen];simp
  ·rename_i z es GY hl;split at he
   ·rename_i kf;cases he;obtain⟨Sm,hO⟩:=H.bN hl;have fS:∀e∈xs,∀t∈e,fz t=true:=fun e he t ht=>List.all_eq_true.1 (List.all_eq_true.1 kf e he) t ht;cases hx with
    |tk hn nR ha h0=>
     cases hO with
     |fD hb iJ=>
      rcases h0 _ hb with rfl |⟨b,o',cs,q1,q2,q3,q4,rfl⟩
      ·exact⟨rfl,by simp,by simp,.inl rfl⟩
      ·exact⟨rfl,by simp,by simp,.inl rfl⟩
     |bZ hb hg hf ht dy iJ hlen he bV Zm hc=>
      rename_i b f t0 eg aF cs;obtain⟨cap,h1,rfl⟩:=ha _ _ _ hb;have NY:zx=n:=by omega
      subst NY;have mi:(cd xs op).flatten.all dM=true:=by
       rw[List.all_eq_true];intro t ht;obtain⟨e,h1,h2⟩:=List.mem_flatten.1 ht;have key:∀(op:List (Nat×List TV)),(∀p∈op,p.2.all dM=true)→e∈cd xs op→dM t=true:=by
        intro op
        induction op with
        |nil=>intro _ h1;have:=fS e h1 t h2;cases t<;>first|rfl |simp[fz]at this
        |cons p l ih=>
         intro jb h1;rcases List.mem_or_eq_of_mem_set h1 with h3|rfl
         ·exact ih (fun q hq=>jb q (List.mem_cons_of_mem _ hq)) h3
         ·exact List.all_eq_true.1 (jb p List.mem_cons_self) t h2
       exact key op jb h1
      obtain⟨hV,_⟩:=hc.Uk (fun t v hv hf=>hv.dm hf) mi;refine⟨rfl,Zm,fS,.inr ⟨cs,?_,fun e=>?_,hlen,he,hV⟩⟩
      ·simp only[eB,M.ai,dq hf ht (au hg),Option.bind_some,List.drop_zero,aM];rw[←hlen];simp
      ·subst e;refine⟨hlen,he,fS,fun i j e t v q1 q2 q3=>?_⟩;obtain⟨f1,f2⟩:=eo he q1;refine hV.2 (i*zx+j) t v ?_ q3;show xs.flatten[i*zx+j]? =some t;have hj:j<zx:=by rw[←he e (List.mem_of_getElem? q1)];exact(List.getElem?_eq_some_iff.1 q2).1
       rw[←f1,List.getElem?_take,if_pos hj,List.getElem?_drop]at q2;exact q2
   ·cases he
  ·cases he
 ·cases he;cases hx with
  |nil h1=>subst h1;exact⟨rfl,by simp,by simp,.inl rfl⟩
  |sl q1 q2 q3 q4 q5 q6 q7 q8 q9 Qi=>
   rename_i b oo len cap cs;have NY:zx=n:=by omega
   subst NY;refine done (new:=(cs.drop oo).take (xs.length*zx)) ⟨by simp;rw[←q4]at q7;omega,q8,q9,fun i j e t v r1 r2 r3=>?_⟩ ?_ (by simp[kC,q4])
   ·rw[List.getElem?_take]at r3;split at r3
    ·rw[List.getElem?_drop]at r3;exact Qi i j e t v r1 r2 (by rw[←r3];congr 1;omega)
    ·cases r3
   ·simp only[eB,M.ai,q2,Option.bind_some,aM,and_true,List.length_drop];rw[←q4]at q7;omega
 ·cases he
theorem ER.eF {z:Nat} {es:List (List TV)} {cs:List Value} (A:ER c ρ F h z es cs) (hz:0<z):cs.all M.eF=true:=by
 rw[List.all_eq_true];intro v hv;obtain⟨k,hk⟩:=List.getElem?_of_mem hv;have hkl:k<cs.length:=(List.getElem?_eq_some_iff.1 hk).1;rw[A.len]at hkl;have hi:k / z<es.length:=by
  rw[Nat.div_lt_iff_lt_mul hz];exact hkl
 obtain⟨e,he⟩:∃e,es[k / z]? =some e:=⟨_,List.getElem?_eq_getElem hi⟩;have Kc:=A.each e (List.mem_of_getElem? he);have hj:k % z<e.length:=by rw[Kc];exact Nat.mod_lt _ hz
 obtain⟨t,ht⟩:∃t,e[k % z]? =some t:=⟨_,List.getElem?_eq_getElem hj⟩;have Nd:k / z*z+k % z=k:=by rw[Nat.mul_comm];exact Nat.div_add_mod k z
 have Zn:=A.cell (k / z) (k % z) e t v he ht (by rw[Nd];exact hk);have fS:=A.fz e (List.mem_of_getElem? he) t (List.mem_of_getElem? ht);have hoc:wy t=true:=by
  cases t<;>simp[M.fz]at fS<;>rfl
 exact FB hoc Zn
structure zW (E:Env) (st xt elem n bytes:Nat):Prop where
 sd:E.desc st=some (.slice elem)
 xd:∃e,E.desc xt=some (.slice e)
 size:E.size elem=some n
 bytes:E.bytes elem=some bytes
 zero:∃z,E.zero elem=some z∧z.cells.size=n
theorem vj {base st xt elem n bytes:Nat} (A:zW E st xt elem n bytes) {s x:Value} (hs:GZ s=true) (XB:∀l k,s= .slice none l k→l=0∧k=0) (AA:∀b oo sp l k,s= .slice (some ⟨b,oo,sp⟩) l k→sp.isSome) (hx:kC x=some 0):bq E base h st xt s x=some (s,h):=by
 obtain⟨e,Jg⟩:=A.xd;obtain⟨z,RW,NZ⟩:=A.zero;unfold bq;rw[A.sd,Jg];simp only[Option.bind_some,A.size,A.bytes,RW,hx];simp only[jj,NZ,bp];cases s<;>simp[GZ]at hs;rename_i a l k;cases a with
 |none=>obtain⟨rfl,rfl⟩:=XB l k rfl;simp
 |some a=>
  obtain⟨b,oo,sp⟩:=a;have:=AA b oo sp l k rfl;cases sp with
  |none=>simp at this
  |some q=>simp
theorem N9 {base st xt elem n bytes len:Nat} (A:zW E st xt elem n bytes) {x:Value} {new:List Value} (hx:kC x=some len) (hl:len≠0) (hb:(len+1)*(bytes+1)≤1099511627776) (hf:eB h n len x=some new) (hn:new.length=len*n):
 bq E base h st xt (.slice none 0 0) x=some (fresh h new n len):=by
 obtain⟨e,Jg⟩:=A.xd;obtain⟨z,RW,NZ⟩:=A.zero;unfold bq;rw[A.sd,Jg];simp only[Option.bind_some,A.size,A.bytes,RW,hx];simp only[jj,NZ,bp];simp[Bk,hl,az.2 hb,hf,hn]
theorem BK {base st xt elem n bytes len b oo sl:Nat} (A:zW E st xt elem n bytes) {x:Value} {old new:List Value} (hx:kC x=some len) (hl:len≠0) (hb:(sl+len+1)*(bytes+1)≤1099511627776) (hf:eB h n len x=some new) (hn:new.length=len*n)
 (ho:M.ai h b oo (sl*n)=some old):bq E base h st xt (.slice (some ⟨b,oo,some n⟩) sl sl) x=some (fresh h (old++new) n (sl+len)):=by
 obtain⟨e,Jg⟩:=A.xd;obtain⟨z,RW,NZ⟩:=A.zero;unfold bq;rw[A.sd,Jg];simp only[Option.bind_some,A.size,A.bytes,RW,hx];simp only[jj,NZ,bp];simp[Bk,hl,az.2 hb,hf,hn,ho]
theorem Oa {base st xt elem n bytes len b sl cap f aF:Nat} (A:zW E st xt elem n bytes) {x:Value} {old new cs:List Value} (hx:kC x=some len) (hl:len≠0) (hb:(sl+len+1)*(bytes+1)≤1099511627776) (hf:eB h n len x=some new) (hn:new.length=len*n)
 (ho:M.ai h b 0 (sl*n)=some old) (fG:cap≠sl) (hc:h.cellsOf b=some cs) (kF:h.c8 b=some (f,b,aF)) (dy:base≤f) (jt:new.all eF=true):
 bq E base h st xt (.slice (some ⟨b,0,some n⟩) sl cap) x=some (.slice (some ⟨h.size,0,some n⟩) (sl+len) (sl+len+1),dz h f (bif Nat.beq (sl*n) cs.length then aF else h.size) (old++new)):=by
 obtain⟨e,Jg⟩:=A.xd;obtain⟨z,RW,NZ⟩:=A.zero;unfold bq;rw[A.sd,Jg];simp only[Option.bind_some,A.size,A.bytes,RW,hx];simp only[jj,NZ,bp];have h1:new.all eF=true:=jt;simp[Bk,hl,az.2 hb,hf,hn,ho,fG,hc,kF,az.2 dy,h1];rfl
theorem Mem.flag {n:Nat} {xs:List (List TV)} {o1:Ob} (H:Mem X ρ F ((c,.arr n true xs)::o1) (c+1) h) (w:Bool):∃F',Mem X ρ F' ((c,.arr n w xs)::o1) (c+1) h∧(∀t v,VR (c+1) ρ F h t v→VR (c+1) ρ F' h t v)∧∀b,F b→F' b:=by
 cases w with
 |true=>exact⟨F,H,fun _ _ h=>h,fun _ h=>h⟩
 |false=>
  obtain⟨F',h1,h2,h3,_⟩:=H.share c;refine⟨F',h1.less fun m y hl=>?_,h2,h3⟩;have:g4 ((c,TO.arr n true xs)::o1) c=dZ ((c,TO.arr n true xs)::o1) c (.arr n false xs):=by
   unfold g4;rw[aC,if_pos rfl]
  rw[this,dF];rw[aC]at hl;by_cases e:m=c
  ·subst e;rw[if_pos rfl,aC,if_pos rfl];rw[if_pos rfl]at hl;simpa using hl
  ·rw[if_neg e,aC,if_neg (fun e2=>e e2.symm)]
   rwa [if_neg (fun e2=>e e2.symm)]at hl
theorem qs (H:Mem X ρ F o c h) {m:Nat} {y:TO} {l:Option Loc}:∀n yn,look o n=some yn→n∉[m]→(∃y',look ((c,y)::eI o m) n=some y')∧bX (bX ρ m none) c l n=ρ n:=by
 intro n yn hn bc;have lR:n≠m:=by simpa using bc
 have:=H.lt hn;exact⟨⟨yn,by rw[aC,if_neg om,cZ,if_neg lR];exact hn⟩,by rw[aW _ _ om,aW _ _ lR]⟩
theorem DQ {xs:List (List TV)}:∀{op:List (Nat×List TV)} {es:List (List TV)},(∀p∈op,p.1<es.length)→cd (es++xs) op=cd es op++xs∧(cd es op).length=es.length
 |[],_,_=>⟨rfl,rfl⟩
 |p::l,es,h=>by
  obtain⟨a,b⟩:=DQ (xs:=xs) (op:=l) (es:=es) fun q hq=>h q (List.mem_cons_of_mem _ hq);have:=h p List.mem_cons_self;exact⟨by rw[cd,cd,a,List.set_append_left _ _ om],by rw[cd,List.length_set,b]⟩
theorem Oc {es xs:List (List TV)} {q:Nat×List TV} {op:List (Nat×List TV)} (h:∀p∈op,p.1<es.length):cd (es++xs) ((es.length+q.1,q.2)::op)=cd es op++cd xs [q]:=by
 obtain⟨a,b⟩:=DQ (xs:=xs) h;rw[cd,a,List.set_append_right _ _ om,b];simp[cd]
theorem dh.VX {l:List TV} {m:List Value} (H:dh c ρ F h l m) (ho:∀t∈l,wy t=true):m.all M.eF=true:=tQ (List.all_eq_true.2 ho) H
theorem jh (H:Mem X ρ F o c h) {st xt elem:TypeId} {n bytes:Nat} {xs:List (List TV)} {op:List (Nat×List TV)} {sv xv:Value} {F1:Nat→Prop} {o1:Ob} {gp:Gh} {y1 y2:TO} {ns:List Nat} (A:zW E st xt elem n bytes) (oA:0<n) (hlen:kC xv=some xs.length)
 (jD:xs=[]∨∃new,eB h n xs.length xv=some new∧(op=[]→ER c ρ F h n xs new)∧new.length=xs.length*n∧(∀e∈xs,e.length=n)∧dh c ρ F h (cd xs op).flatten new)
 (fin:∀v h',bq E X.base h st xt sv xv=some (v,h')→cH E X.base af p h=some (.val v,h')) (hp:aB E af p=none) (hq:bt E af p=none) (c9:aV E af p=none)
 (M1:Mem X gp F1 o1 c h) (k1:∀t v,VR c ρ F h t v→VR c gp F1 h t v) (f1:∀b,F b→F1 b) (w1:∀m y,look o m=some y→m∉ns→(∃y',look o1 m=some y')∧gp m=ρ m)
 (tS:sv= .slice none 0 0∨∃b oo cs,F b∧h.rd b=some cs∧oo≤cs.length∧sv= .slice (some ⟨b,oo,some n⟩) 0 0) (jW:(xs.length+1)*(bytes+1)≤1099511627776)
 (GP:xs=[]→∀(c:Nat) (ρ:Gh) (F:Nat→Prop) (m:Nat),ρ m=some (.nil n)→OR c ρ F h X.base m [] y1)
 (jL:∀new,(op=[]→ER c gp F1 h n xs new)→new.length=xs.length*n→(∀e∈xs,e.length=n)→dh c gp F1 h (cd xs op).flatten new→Mem X (bX gp c (some (.arr h.size n xs.length))) F1 ((c,y1)::o1) (c+1) (h.push (.cells new h.size h.size 0))∧∀t v,VR c gp F1 h t v→VR (c+1) (bX gp c (some (.arr h.size n xs.length))) F1 (h.push (.cells new h.size h.size 0)) t v)
 (fl:∀{gp:Gh} {F1:Nat→Prop} {h1:ah},Mem X gp F1 ((c,y1)::o1) (c+1) h1→∃F',Mem X gp F' ((c,y2)::o1) (c+1) h1∧(∀t v,VR (c+1) gp F1 h1 t v→VR (c+1) gp F' h1 t v)∧∀b,F1 b→F' b)
 (hK:K (.tk c) ((c,y2)::o1) (c+1) (.cU ns)):ee E X ρ F o c af h p K:=by
 have FD:∀m y,look o m=some y→m≠c:=fun m y hl=>by have:=H.lt hl;omega
 by_cases pV:xs.length=0
 ·have Qn:xs=[]:=List.length_eq_zero_iff.1 pV;obtain⟨M2,k2⟩:=M1.N8 (y:=y1) (z:=n) (GP Qn);obtain⟨F3,M3,k3,f3⟩:=fl M2;have uD:bq E X.base h st xt sv xv=some (sv,h):=by
   refine vj A ?_ ?_ ?_ (by rw[hlen,pV])
   ·rcases tS with rfl |⟨b,oo,cs,_,_,_,rfl⟩<;>rfl
   ·rintro l k e;rcases tS with rfl |⟨b,oo,cs,_,_,_,rfl⟩<;>cases e;exact⟨rfl,rfl⟩
   ·rintro b oo sp l k e;rcases tS with rfl |⟨b,oo,cs,_,_,_,rfl⟩<;>cases e;rfl
  refine ee.cU H hp hq c9 (fin _ _ uD) ⟨M3,fun t x hx=>k3 t x (k2 t x (k1 t x hx)),Nat.le_refl _,fun b hb=>f3 b (f1 b hb),fun _ _ _ hr=>hr⟩ ?_ (fun m y hl hm=>⟨?_,?_,fun b _=>⟨rfl,fun _ hr=>hr⟩⟩) hK
  ·refine .tk om (by rcases tS with rfl |⟨b,oo,cs,_,_,_,rfl⟩<;>rfl) (fun b z len hx=>?_) (fun z hx=>?_)
   ·rw[aD]at hx;cases hx
   ·rw[aD]at hx;cases hx;rcases tS with rfl |⟨b,oo,cs,q1,q2,q3,rfl⟩
    ·exact .inl rfl
    ·exact .inr ⟨b,oo,cs,f3 _ (f1 _ q1),q2,oA,q3,rfl⟩
  ·rw[aC,if_neg (FD m y hl).symm];exact(w1 m y hl hm).1
  ·rw[aW _ _ (FD m y hl)];exact(w1 m y hl hm).2
 ·rcases jD with e|⟨new,No,hE,wq,Je,hV⟩
  ·subst e;simp at pV
  ·obtain⟨M2,k2⟩:=jL new (fun e=>(hE e).mono k1) wq Je (hV.oH k1);obtain⟨F3,M3,k3,f3⟩:=fl M2;have uD:bq E X.base h st xt sv xv=some (fresh h new n xs.length):=by
    rcases tS with rfl |⟨b,oo,cs,_,q2,q3,rfl⟩
    ·exact N9 A hlen pV jW No wq
    ·have:=BK (base:=X.base) (sl:=0) (old:=[]) (b:=b) (oo:=oo) A hlen pV (by simpa using jW) No wq (by simp[M.ai,q2,takeN]);simpa using this
   refine ee.cU H hp hq c9 (fin _ _ uD) ⟨M3,fun t x hx=>k3 t x (k2 t x (k1 t x hx)),by show h.size≤h.size+1;omega,fun b hb=>f3 b (f1 b hb),fun b cs hb hr=>(dH H.wf.le _ (H.Fo hb)).trans hr⟩ ?_ (fun m y hl hm=>⟨?_,?_,fun b hb=>?_⟩) hK
   ·refine .tk om rfl (fun b z len hx=>?_) (fun z hx=>?_)
    ·rw[aD]at hx;cases hx;exact⟨_,om,rfl⟩
    ·rw[aD]at hx;cases hx
   ·rw[aC,if_neg (FD m y hl).symm];exact(w1 m y hl hm).1
   ·rw[aW _ _ (FD m y hl)];exact(w1 m y hl hm).2
   ·have:=H.vd hl hb;exact⟨by rw[ah.ak,if_neg om],fun cs hr=>by rw[dH H.wf.le _ this];exact hr⟩
theorem FE (H:Mem X ρ F o c h) {st xt elem:TypeId} {z bytes:Nat} {xs:List (List TV)} {xv:Value} {S:Nat→Ft} (K0:MO X ρ F o c h S) {m b f t0 eg aF len cap l0:Nat} {w:Bool} {y y2:TO} {Sq:Ft} {cs new:List Value} (A:zW E st xt elem z bytes) (hlen:kC xv=some xs.length) (pV:xs.length≠0)
 (fin:∀v h',bq E X.base h st xt (.slice (some ⟨b,0,some z⟩) len cap) xv=some (v,h')→cH E X.base af p h=some (.val v,h')) (hp:aB E af p=none) (hq:bt E af p=none) (c9:aV E af p=none)
 (hl:look o m=some y) (hS:S m=(f,w)::Sq) (hb:ρ m=some (.arr b z l0)) (hg:h.get b=some (.cells cs f t0 eg)) (hf:h.c8 b=some (f,b,aF)) (ht:aF≤b) (dy:X.base≤f) (_:0<z) (GD:len*z≤cs.length) (hlw:cs.length=len*z∨w=true) (fG:len≤cap)
 (jW:(len+xs.length+1)*(bytes+1)≤1099511627776) (No:eB h z xs.length xv=some new) (wq:new.length=xs.length*z) (jt:new.all eF=true) (hw:w=true∨Sq=[])
 (sO:∀{c':Nat} {ρ':Gh} {F':Nat→Prop} {h':ah} {b' f' t1 ue qW:Nat} {T:Nat→Prop},(∀t v,VR c ρ F h t v→VR c' ρ' F' h' t v)→(∀b,F b→F' b)→(∀b cs,F b→h.rd b=some cs→h'.rd b=some cs)→(∀b,b<h.size→¬T (hd h b)→h'.get b=h.get b)→(∀x∈cQ Sq,¬T x)→
  ρ' c=some (.arr b' z (len+xs.length))→h'.get b'=some (.cells (cs.take (len*z)++new) f' t1 ue)→h'.c8 b'=some (f',b',qW)→qW≤b'→X.base≤f'→(w=false→F' b')→OR c' ρ' F' h' X.base c ((f',w)::Sq) y2)
 (hK:K (.tk c) ((c,y2)::eI o m) (c+1) (.cU [m])):ee E X ρ F o c af h p K:=by
 have ft:=dq hf ht (au hg);have CW:M.ai h b 0 (len*z)=some (cs.take (len*z)):=by
  simp only[M.ai,ft,Option.bind_some,List.drop_zero,aM];simp[GD]
 obtain⟨c0,bC⟩:=bw hf;simp only at bC;have wz:f∈cQ (S m):=by rw[hS];exact List.mem_cons_self
 have lS:=K0.AD m _ hl;rw[hS]at lS;obtain⟨n1,n2⟩:=List.nodup_cons.1 lS;by_cases bV:cap=len
 ·subst bV;have uD:=BK (base:=X.base) A hlen pV jW No wq CW;have RX:(h.push (.cells (cs.take (cap*z)++new) h.size h.size 0)).get h.size=some (.cells (cs.take (cap*z)++new) h.size h.size 0):=by rw[ah.ak,if_pos rfl]
  have cE:∀b cs',F b→h.rd b=some cs'→(h.push (.cells (cs.take (cap*z)++new) h.size h.size 0)).rd b=some cs':=fun b cs' hb hr=>(dH H.wf.le _ (H.Fo hb)).trans hr;have Kp:∀b,b<h.size→(h.push (.cells (cs.take (cap*z)++new) h.size h.size 0)).get b=h.get b:=fun b hb=>by rw[ah.ak,if_neg om]
  have Zo:∀F3,(∀b,F b→F3 b)→Mem X (bX (bX ρ m none) c (some (.arr h.size z (cap+xs.length)))) F3 ((c,y2)::eI o m) (c+1) (h.push (.cells (cs.take (cap*z)++new) h.size h.size 0))→(∀t x,VR c ρ F h t x→VR (c+1) (bX (bX ρ m none) c (some (.arr h.size z (cap+xs.length)))) F3 (h.push (.cells (cs.take (cap*z)++new) h.size h.size 0)) t x)→ee E X ρ F o c af h p K:=by
   intro F3 f3 M3 k3;refine ee.cU H hp hq c9 (fin _ _ uD) ⟨M3,k3,by show h.size≤h.size+1;omega,f3,cE⟩ ?_ (fun n y uq bc=>?_) hK
   ·refine .tk om rfl (fun b' z' len hx=>?_) (fun z hx=>?_)
    ·rw[aD]at hx;cases hx;exact⟨cap+xs.length+1,om,by simp⟩
    ·rw[aD]at hx;cases hx
   ·obtain⟨q1,q2⟩:=qs H (y:=y2) (l:=some (.arr h.size z (cap+xs.length))) n y uq bc;have bj:=fun b' bJ=>H.vd (b:=b') uq bJ;exact⟨q1,q2,fun b' bJ=>⟨Kp b' (bj b' bJ),fun cs hr=>(dH H.wf.le _ (bj b' bJ)).trans hr⟩⟩
  have Zp:Wf (h.push (.cells (cs.take (cap*z)++new) h.size h.size 0)):=H.wf.push fun cs f cu aF e=>by cases e;exact Nat.le_refl _
  obtain⟨M3,k3⟩:=H.Qm K0 (S0:=(h.size,w)::Sq) (y':=y2) (q:=.arr h.size z (cap+xs.length)) (h':=h.push (.cells (cs.take (cap*z)++new) h.size h.size 0)) hl hb (by rw[ah.size_push];omega) Zp Kp cE (fun p hp=>by
   rcases List.mem_cons.1 hp with rfl |hp
   ·exact .inr rfl
   ·rw[hS];exact .inl (List.mem_cons_of_mem _ hp)) (List.nodup_cons.2 ⟨fun hx=>by
    have:=(K0.eD m _ h.size hl (by rw[hS];exact List.mem_cons_of_mem _ hx)).2.1;omega,n2⟩) (fun x hx=>by
    rw[ah.size_push];rcases List.mem_cons.1 hx with rfl |hx
    ·simp
    ·have:=(K0.eD m _ x hl (by rw[hS];exact List.mem_cons_of_mem _ hx)).2.1;omega) (!w) (fun VY=>by
    have EU:w=false:=by simpa using VY
    subst EU;have hSq:Sq=[]:=by rcases hw with h|h;cases h;exact h
    subst hSq;exact⟨by rw[dq (bu RX RX) (Nat.zero_le _) (au RX)];rfl,bH RX,by simp⟩) (by simp) fun hm=>
   sO (T:=fun _=>False) hm (fun _ h=>.inl h) cE (fun b hb _=>Kp b hb) (fun _ _ hf=>hf.elim) (aD _ _ _) RX (bu RX RX) (Nat.zero_le _) H.lq (fun h=>.inr ⟨by simp[h],rfl⟩)
  exact Zo _ (fun _ h=>.inl h) M3 k3
 ·have uD:=Oa (base:=X.base) (cap:=cap) A hlen pV jW No wq CW bV (au hg) hf dy jt;obtain⟨cG,CS⟩:∃t,t=(bif Nat.beq (len*z) cs.length then aF else h.size):=⟨_,rfl⟩;rw[←CS]at uD;have Jo:=H.wf.lt hg;have VZ:cG≤h.size:=by cases I5:Nat.beq (len*z) cs.length<;>rw[I5]at CS<;>simp only[cond_true,cond_false]at CS<;>omega
  have V0:cG=aF∨w=true:=by
   rcases hlw with e|e
   ·left;rw[CS,e,show Nat.beq (len*z) (len*z)=true from beq_iff.2 rfl];rfl
   ·exact .inr e
  have Kq:∀x,x<h.size→hd h x≠f→(dz h f cG (cs.take (len*z)++new)).get x=h.get x:=fun x hx Vu=>by
   rw[ext_get bC,if_neg om,if_neg];intro e;subst e;exact Vu (bH bC)
  have Zq:∀x cs',F x→h.rd x=some cs'→(dz h f cG (cs.take (len*z)++new)).rd x=some cs':=fun x cs' hx hr=>by
   rcases V0 with e|e
   ·rw[e];exact J5 H.wf bC hr
   ·exact ig H.wf Kq (K0.apart m _ f x hl (by rw[hS,e];exact List.mem_cons_self) hx) hr
  obtain⟨M2,k2⟩:=H.Vx K0 cG (len':=len+xs.length) (cs':=cs.take (len*z)++new) (y':=y2) hl hS hb hg hf ht VZ V0 fun hm same cE ry hfc=>
   sO (T:=fun x=>x=f) hm (fun _ h=>.inl h) cE same (fun x hx e=>n1 (by subst e;exact hx)) (aD _ _ _) ry hfc VZ dy (fun hw=>.inr ⟨hw,rfl⟩)
  refine ee.cU H hp hq c9 (fin _ _ uD) ⟨M2,k2,by rw[qi];omega,fun _ h=>.inl h,Zq⟩ ?_ (fun n y uq bc=>?_) hK
  ·refine .tk om rfl (fun b' z' len hx=>?_) (fun z hx=>?_)
   ·rw[aD]at hx;cases hx;exact⟨_,om,rfl⟩
   ·rw[aD]at hx;cases hx
  ·obtain⟨q1,q2⟩:=qs H (y:=y2) (l:=some (.arr h.size z (len+xs.length))) n y uq bc;have lR:n≠m:=by simpa using bc
   refine⟨q1,q2,fun b' bJ=>?_⟩;obtain⟨bj,hh⟩:=H.zT K0 uq bJ;have V1:hd h b'≠f:=fun e=>by
    rw[e]at hh;exact lR (K0.eJ n m _ _ _ uq hl hh wz)
   exact⟨Kq b' bj V1,fun cs hr=>ig H.wf Kq V1 hr⟩
theorem DR (H:Mem X ρ F o c h) {st xt elem:TypeId} {z bytes:Nat} {xs:List (List TV)} {xv:Value} {S:Nat→Ft} (K0:MO X ρ F o c h S) {m b f t0 eg aF len cap:Nat} {w:Bool} {y y2:TO} {Sq:Ft} {cs new:List Value} (A:zW E st xt elem z bytes) (hlen:kC xv=some xs.length) (pV:xs.length≠0)
 (fin:∀v h',bq E X.base h st xt (.slice (some ⟨b,0,some z⟩) len cap) xv=some (v,h')→cH E X.base af p h=some (.val v,h')) (hp:aB E af p=none) (hq:bt E af p=none) (c9:aV E af p=none)
 (hl:look o m=some y) (hS:S m=(f,w)::Sq) (hb:ρ m=some (.arr b z len)) (hg:h.get b=some (.cells cs f t0 eg)) (hf:h.c8 b=some (f,b,aF)) (ht:aF≤b) (dy:X.base≤f) (hz:0<z) (GD:cs.length=len*z) (fG:len≤cap)
 (jW:(len+xs.length+1)*(bytes+1)≤1099511627776) (No:eB h z xs.length xv=some new) (wq:new.length=xs.length*z) (jt:new.all eF=true) (hw:w=true∨Sq=[])
 (sO:∀{c':Nat} {ρ':Gh} {F':Nat→Prop} {h':ah} {b' f' t1 ue qW:Nat} {T:Nat→Prop},(∀t v,VR c ρ F h t v→VR c' ρ' F' h' t v)→(∀b,F b→F' b)→(∀b cs,F b→h.rd b=some cs→h'.rd b=some cs)→(∀b,b<h.size→¬T (hd h b)→h'.get b=h.get b)→(∀x∈cQ Sq,¬T x)→
  ρ' c=some (.arr b' z (len+xs.length))→h'.get b'=some (.cells (cs++new) f' t1 ue)→h'.c8 b'=some (f',b',qW)→qW≤b'→X.base≤f'→(w=false→F' b')→OR c' ρ' F' h' X.base c ((f',w)::Sq) y2)
 (hK:K (.tk c) ((c,y2)::eI o m) (c+1) (.cU [m])):ee E X ρ F o c af h p K:=by
 have e:cs.take (len*z)=cs:=List.take_of_length_le om;exact FE H K0 A hlen pV fin hp hq c9 hl hS hb hg hf ht dy hz om (.inl GD) fG jW No wq jt hw (by rw[e];exact sO) hK
theorem BL (L:bR T E) (H:Mem X ρ F o c h) {st xt:TypeId} {l:Int} {sv:Value} {fl:Bool} (hw:uJ T st xt l o c K) (hs:VR c ρ F h (.sl 0 [] fl) sv) (hp:aB E af p=none) (hq:bt E af p=none) (c9:aV E af p=none)
 (fin:∀v h',gz E h st xt sv (.int .i64 l)=some (v,h')→cH E X.base af p h=some (.val v,h')):ee E X ρ F o c af h p K:=by
 have FD:∀m y,look o m=some y→m≠c:=fun m y hl=>by have:=H.lt hl;omega
 have e:sv= .slice none 0 0:=by
  cases hs with
  |nil=>rfl
  |sl q1 q2 q3=>omega
 subst e;unfold uJ at hw;split at hw
 ·rename_i elem k hd Jg;split at hw
  ·rename_i n bytes z hn CQ hz;obtain⟨iJ,mi⟩:=L.zero _ _ hz;split at hw
   ·rename_i zs hc ib;simp only[Bool.and_eq_true,beq_iff,aI]at hc;obtain⟨⟨nK,I6⟩,DS⟩:=hc;split at hw
    ·rename_i Nj;obtain⟨⟨b1,b2⟩,hK⟩:=hw;have jW:(l.toNat+1)*(bytes+1)≤1099511627776:=size_le om DS;have o4:=fj (c:=c) (ρ:=ρ) (F:=F) (h:=h) mi ib;have G7:zs.length=n:=by have:=o4.1;simp only[Array.length_toList]at this;omega
     have hE:=ER.replicate o4 G7 Nj l.toNat
     obtain⟨M2,k2⟩:=H.zI hE I6;have uD:gz E h st xt (.slice none 0 0) (.int .i64 l)=some (fresh h (aG z.cells.toList l.toNat) n l.toNat):=by
      unfold gz;rw[L.desc _ _ hd,L.desc _ _ Jg];simp only[Option.bind_some,L.size _ _ hn,L.bytes _ _ CQ,iJ];simp only[jj,nK,bp];rw[show Nat.beq n n=true from beq_iff.2 rfl,show Nat.blt 0 n=true from aI.2 I6,show Nat.blt 0 l.toNat=true from aI.2 om,az.2 jW];rfl
     rw[List.length_replicate]at M2 k2;refine ee.cU H hp hq c9 (fin _ _ uD) ⟨M2,k2,by show h.size≤h.size+1;omega,fun _ h=>h,fun b cs hb hr=>(dH H.wf.le _ (H.Fo hb)).trans hr⟩ ?_ (fun m y hl hm=>⟨?_,?_,fun b hb=>?_⟩) hK
     ·refine .tk om rfl (fun b z len hx=>?_) (fun z hx=>?_)
      ·rw[aD]at hx;cases hx;exact⟨_,om,rfl⟩
      ·rw[aD]at hx;cases hx
     ·rw[aC,if_neg (FD m y hl).symm];exact⟨y,hl⟩
     ·rw[aW _ _ (FD m y hl)]
     ·have:=H.vd hl hb;exact⟨by rw[ah.ak,if_neg om],fun cs hr=>by rw[dH H.wf.le _ this];exact hr⟩
    ·exact hw.elim
   ·exact hw.elim
  ·exact hw.elim
 ·exact hw.elim
theorem DT (L:bR T E) (H:Mem X ρ F o c h) {st xt:TypeId} {s x:TV} {sv xv:Value} (hw:zw T st xt s x o c K) (hs:VR c ρ F h s sv) (hx:VR c ρ F h x xv) (hp:aB E af p=none) (hq:bt E af p=none) (c9:aV E af p=none)
 (fin:∀v h',bq E X.base h st xt sv xv=some (v,h')→cH E X.base af p h=some (.val v,h')):ee E X ρ F o c af h p K:=by
 have w0:∀m y,look o m=some y→m∉([]:List Nat)→(∃y',look o m=some y')∧ρ m=ρ m:=fun m y hl _=>⟨⟨y,hl⟩,rfl⟩
 -- a slice without elements
 have emp:∀{z n:Nat},z=n∨z=0→VR c ρ F h (.sl z [] true) sv→sv= .slice none 0 0∨∃b oo cs,F b∧h.rd b=some cs∧oo≤cs.length∧sv= .slice (some ⟨b,oo,some n⟩) 0 0:=by
  intro z n hz hs;cases hs with
  |nil=>exact .inl rfl
  |sl q1 q2 q3 q4 q5 q6 q7 q8 q9 Qi=>
   have NY:z=n:=by omega
   subst NY;simp at q4;subst q4;rw[q6 rfl];exact .inr ⟨_,_,_,q1,q2,om,rfl⟩
 have V2:∀{y:TO} {o1:Ob} {gp:Gh} {F1:Nat→Prop} {h1:ah},Mem X gp F1 ((c,y)::o1) (c+1) h1→∃F',Mem X gp F' ((c,y)::o1) (c+1) h1∧(∀t v,VR (c+1) gp F1 h1 t v→VR (c+1) gp F' h1 t v)∧∀b,F1 b→F' b:=
  fun {y o1 gp F1 h1} M=>⟨F1,M,fun _ _ h=>h,fun _ h=>h⟩
 have closed:∀{e:List TV},(∀t∈e,fz t=true)→∀t∈e,kM t=true:=fun {e} he t ht=>by
  have:=he t ht;unfold kM;split<;>first|rfl |exact this
 unfold zw at hw;split at hw
 ·rename_i elem aa8 XD Jg;split at hw
  ·rename_i n bytes z0 zx xs hn CQ AH Fz;split at hw
   ·rename_i hc;simp only[Bool.and_eq_true,beq_iff,aI,Bool.or_eq_true]at hc;obtain⟨⟨⟨RY,oA⟩,hzx⟩,DS⟩:=hc;have size:∀{k:Nat},k<1048576→(k+1)*(bytes+1)≤1099511627776:=fun {k} hk=>size_le hk DS;have A:zW E st xt elem n bytes:=⟨L.desc _ _ XD,⟨_,L.desc _ _ Jg⟩,L.size _ _ hn,L.bytes _ _ CQ,_,(L.zero _ _ AH).1,RY⟩;obtain⟨hlen,_,Qo,jD⟩:=ng H Fz (hzx.imp id fun h=>⟨h,rfl⟩) (by simp) hx
    have RZ:∀{gp:Gh} {F1:Nat→Prop} {o1:Ob},Mem X gp F1 o1 c h→∀new,(([]:List (Nat×List TV))=[]→ER c gp F1 h n xs new)→new.length=xs.length*n→(∀e∈xs,e.length=n)→dh c gp F1 h (cd xs []).flatten new→Mem X (bX gp c (some (.arr h.size n xs.length))) F1 ((c,.arr n true xs)::o1) (c+1) (h.push (.cells new h.size h.size 0))∧∀t v,VR c gp F1 h t v→VR (c+1) (bX gp c (some (.arr h.size n xs.length))) F1 (h.push (.cells new h.size h.size 0)) t v:=
     fun M1 new hE _ _ _=>M1.zI (hE rfl) oA
    split at hw
    ·rename_i z;split at hw
     ·rename_i hz;simp only[Bool.or_eq_true,beq_iff]at hz;obtain⟨jW,hK⟩:=hw;exact jh H A oA hlen jD fin hp hq c9 H (fun _ _ h=>h) (fun _ h=>h) w0 (emp hz hs) (size jW) (fun e c ρ F m hm=>by subst e;exact .nil hm oA) (RZ H) V2 hK
     ·exact hw.elim
    ·rename_i m;split at hw
     ·rename_i z w es hl;split at hw
      ·rename_i hz;rw[beq_iff]at hz;subst hz;obtain⟨Kr,hK⟩:=hw;have jW:=size Kr;obtain⟨S,K0⟩:=H.ex;have hO:=K0.bN m _ hl;generalize hS:S m=Sm at hO;have BM:=hO.tk rfl hs;cases hO with
       |nil hb iJ=>
        rcases BM with⟨_,_,tS⟩|⟨b,cap,h1,_⟩
        ·obtain⟨M1,k1⟩:=H.gone hl rfl;refine jh H (ns:=[m]) (y1:=.arr z true xs) (y2:=.arr z w xs) A oA hlen jD fin hp hq c9 M1 k1 (fun _ h=>h) (fun n y uq bc=>?_) (tS.imp id fun⟨b,o',cs,q1,q2,q3,q4,q5⟩=>⟨b,o',cs,q1,q2,q4,q5⟩) (by simpa using jW) (fun e c ρ F m hm=>by subst e;exact .nil hm oA) (RZ M1) (fun M=>M.flag w) (by simpa using hK);have lR:n≠m:=by simpa using bc
         exact⟨⟨y,by rw[cZ,if_neg lR];exact uq⟩,aW _ _ lR⟩
        ·rw[hb]at h1;cases h1
       |arr hb hg hf ht dy iJ cb kq fS hc hF=>
        rename_i b f t0 eg aF cs;rcases BM with⟨_,h1,_⟩|⟨b',cap,h1,fG,rfl⟩
        ·rw[hb]at h1;cases h1
        ·rw[hb]at h1;cases h1;by_cases pV:xs.length=0
         ·have Qn:xs=[]:=List.length_eq_zero_iff.1 pV;subst Qn;obtain⟨M2,k2⟩:=H.rename hl hb
          have uD:bq E X.base h st xt (.slice (some ⟨b,0,some z⟩) es.length cap) xv=some (.slice (some ⟨b,0,some z⟩) es.length cap,h):=
           vj A rfl (by rintro l k e;cases e) (by rintro b oo sp l k e;cases e;rfl) hlen
          rw[List.append_nil]at hK;refine ee.cU H hp hq c9 (fin _ _ uD) ⟨M2,k2,Nat.le_refl _,fun _ h=>h,fun _ _ _ hr=>hr⟩ ?_ (fun n y uq bc=>?_) hK
          ·refine .tk om rfl (fun b' z' len hx=>?_) (fun z hx=>?_)
           ·rw[aD]at hx;cases hx;exact⟨_,fG,rfl⟩
           ·rw[aD]at hx;cases hx
          ·obtain⟨q1,q2⟩:=qs H (y:=.arr z w es) (l:=some (.arr b z es.length)) n y uq bc;exact⟨q1,q2,fun b' _=>⟨rfl,fun _ hr=>hr⟩⟩
         ·rcases jD with e|⟨new,jL,hE,wq,Je,hV⟩
          ·subst e;simp at pV
          ·have Zr:ER c ρ F h z (es++xs) (cs++new):=ER.append ⟨cb,kq,fS,hc⟩ (hE rfl);refine DR H K0 (y2:=.arr z w (es++xs)) A hlen pV fin hp hq c9 hl hS hb hg hf ht dy iJ cb fG jW jL wq ((hE rfl).eF iJ) (.inr rfl) (fun hm oI cE same hT DU jl wu Od BN Nh=>?_) hK;exact OR.J3 (by rw[List.length_append];exact DU) jl wu Od BN iJ (Zr.mono hm) Nh
      ·exact hw.elim
     ·rename_i z es Fh hl;split at hw
      ·rename_i hz;rw[beq_iff]at hz;subst hz;obtain⟨Kr,hK⟩:=hw;have jW:=size Kr;obtain⟨S,K0⟩:=H.ex;have hO:=K0.bN m _ hl;generalize hS:S m=Sm at hO;have BM:=hO.tk rfl hs;cases hO with
       |fD hb iJ=>
        rcases BM with⟨_,_,tS⟩|⟨b,cap,h1,_⟩
        ·obtain⟨M1,k1⟩:=H.gone hl rfl;refine jh H (ns:=[m]) (y1:=.bZ z xs []) (y2:=.bZ z xs []) A oA hlen jD fin hp hq c9 M1 k1 (fun _ h=>h) (fun n y uq bc=>?_) (tS.imp id fun⟨b,o',cs,q1,q2,q3,q4,q5⟩=>⟨b,o',cs,q1,q2,q4,q5⟩) (by simpa using jW) (fun e c ρ F m hm=>by subst e;exact .fD hm oA) (fun new hE h1 h2 h3=>?_) V2 (by simpa using hK)
         ·have lR:n≠m:=by simpa using bc
          exact⟨⟨y,by rw[cZ,if_neg lR];exact uq⟩,aW _ _ lR⟩
         ·exact M1.Dx ⟨h1,h2,fun e he=>closed (Qo e he),by simp,cp.jx h3⟩ oA
        ·rw[hb]at h1;cases h1
       |bZ hb hg hf ht dy iJ cb kq bV jb hc=>
        rename_i Sq b f t0 eg aF cs;rcases BM with⟨_,h1,_⟩|⟨b',cap,h1,fG,rfl⟩
        ·rw[hb]at h1;cases h1
        ·rw[hb]at h1;cases h1;by_cases pV:xs.length=0
         ·have Qn:xs=[]:=List.length_eq_zero_iff.1 pV;subst Qn;obtain⟨M2,k2⟩:=H.rename hl hb
          have uD:bq E X.base h st xt (.slice (some ⟨b,0,some z⟩) es.length cap) xv=some (.slice (some ⟨b,0,some z⟩) es.length cap,h):=
           vj A rfl (by rintro l k e;cases e) (by rintro b oo sp l k e;cases e;rfl) hlen
          rw[List.append_nil]at hK;refine ee.cU H hp hq c9 (fin _ _ uD) ⟨M2,k2,Nat.le_refl _,fun _ h=>h,fun _ _ _ hr=>hr⟩ ?_ (fun n y uq bc=>?_) hK
          ·refine .tk om rfl (fun b' z' len hx=>?_) (fun z hx=>?_)
           ·rw[aD]at hx;cases hx;exact⟨_,fG,rfl⟩
           ·rw[aD]at hx;cases hx
          ·obtain⟨q1,q2⟩:=qs H (y:=.bZ z es Fh) (l:=some (.arr b z es.length)) n y uq bc;exact⟨q1,q2,fun b' _=>⟨rfl,fun _ hr=>hr⟩⟩
         ·rcases jD with e|⟨new,jL,hE,wq,Je,hV⟩
          ·subst e;simp at pV
          ·refine DR H K0 (y2:=.bZ z (es++xs) Fh) A hlen pV fin hp hq c9 hl hS hb hg hf ht dy iJ cb fG jW jL wq ((hE rfl).eF iJ) (.inl rfl) (fun hm oI cE same hT DU jl wu Od BN Nh=>?_) hK;refine OR.RF (by rw[List.length_append];exact DU) jl wu Od BN iJ ⟨by simp[cb,wq,Nat.add_mul],fun e he=>?_,fun e he=>?_,fun p hp=>⟨by have:=(jb p hp).1;simp;omega,(jb p hp).2⟩,?_⟩
           ·rcases List.mem_append.1 he with h1|h1
            ·exact kq e h1
            ·exact Je e h1
           ·rcases List.mem_append.1 he with h1|h1
            ·exact bV e h1
            ·exact closed (Qo e h1)
           ·have:=(hc.bd H.wf same oI cE hm hT).join (cp.jx (base:=X.base) (hV.oH hm));rw[List.append_nil]at this;rw[(DQ fun p hp=>(jb p hp).1).1,List.flatten_append];exact this
      ·exact hw.elim
     ·exact hw.elim
    ·rename_i m k;split at hw
     ·rename_i z es hl;split at hw
      ·rename_i hz;rw[beq_iff]at hz;subst hz;obtain⟨⟨Ur,Kr,Qn⟩,hK⟩:=hw;have jW:=size Kr;have pV:xs.length≠0:=fun e=>Qn (List.length_eq_zero_iff.1 e);obtain⟨S,K0⟩:=H.ex;have hO:=K0.bN m _ hl;generalize hS:S m=Sm at hO;cases hs with
       |pv CT nR ha h0=>
       cases hO with
       |nil hb iJ=>
        have tS:=h0 _ hb;have E6:k=0:=by simpa using Ur
        subst E6;obtain⟨M1,k1⟩:=H.gone hl rfl;refine jh H (ns:=[m]) (y1:=.arr z true xs) (y2:=.arr z true xs) A oA hlen jD fin hp hq c9 M1 k1 (fun _ h=>h) (fun n y hl bc=>?_) (tS.imp id fun⟨b,o',cs,q1,q2,q3,q4,q5⟩=>⟨b,o',cs,q1,q2,q4,q5⟩) (by simpa using jW) (fun e c ρ F m hm=>by subst e;exact .nil hm oA) (RZ M1) V2 (by simpa using hK);have lR:n≠m:=by simpa using bc
        exact⟨⟨y,by rw[cZ,if_neg lR];exact hl⟩,aW _ _ lR⟩
       |arr hb hg hf ht dy iJ cb kq fS hc hF=>
        rename_i b f t0 eg aF cs;obtain⟨cap,fG,rfl⟩:=ha _ _ _ hb;rcases jD with e|⟨new,jL,hE,wq,Je,hV⟩
        ·exact absurd e Qn
        ·have hkz:k*z≤cs.length:=by rw[cb];exact Nat.mul_le_mul_right _ Ur
         have Zr:ER c ρ F h z (es.take k++xs) (cs.take (k*z)++new):=ER.append (ER.take ⟨cb,kq,fS,hc⟩ Ur) (hE rfl);refine FE H K0 (y2:=.arr z true (es.take k++xs)) A hlen pV fin hp hq c9 hl hS hb hg hf ht dy iJ hkz (.inr rfl) fG jW jL wq ((hE rfl).eF iJ) (.inl rfl) (fun hm oI cE same hT DU jl wu Od BN Nh=>?_) hK;exact OR.J3 (by rw[List.length_append,List.length_take,Nat.min_eq_left Ur];exact DU) jl wu Od BN iJ (Zr.mono hm) Nh
      ·exact hw.elim
     ·exact hw.elim
    ·exact hw.elim
   ·exact hw.elim
  ·rename_i n bytes z0 zx xs q hn CQ AH Fz;split at hw
   ·rename_i hc;simp only[Bool.and_eq_true,beq_iff,aI]at hc;obtain⟨⟨⟨⟨RY,oA⟩,rfl⟩,DS⟩,mi,Zs⟩:=hc;have size:∀{k:Nat},k<1048576→(k+1)*(bytes+1)≤1099511627776:=fun {k} hk=>size_le hk DS;have A:zW E st xt elem zx bytes:=⟨L.desc _ _ XD,⟨_,L.desc _ _ Jg⟩,L.size _ _ hn,L.bytes _ _ CQ,_,(L.zero _ _ AH).1,RY⟩;obtain⟨hlen,V3,Qo,jD⟩:=ng H Fz (.inl rfl) (by simpa using mi) hx;obtain⟨o1,o2⟩:=V3 q (by simp);have pV:xs.length≠0:=by omega
    have V4:∀{gp:Gh} {F1:Nat→Prop} {o1:Ob},Mem X gp F1 o1 c h→∀new,([q]=[]→ER c gp F1 h zx xs new)→new.length=xs.length*zx→(∀e∈xs,e.length=zx)→dh c gp F1 h (cd xs [q]).flatten new→Mem X (bX gp c (some (.arr h.size zx xs.length))) F1 ((c,.bZ zx xs [q])::o1) (c+1) (h.push (.cells new h.size h.size 0))∧∀t v,VR c gp F1 h t v→VR (c+1) (bX gp c (some (.arr h.size zx xs.length))) F1 (h.push (.cells new h.size h.size 0)) t v:=
     fun M1 new _ h1 h2 h3=>M1.Dx ⟨h1,h2,fun e he=>closed (Qo e he),V3,cp.jx h3⟩ oA
    have V5:∀{new:List Value},dh c ρ F h (cd xs [q]).flatten new→new.length=xs.length*zx→new.all eF=true:=by
     intro new hV _;refine dh.VX hV fun t ht=>?_;obtain⟨e,h1,h2⟩:=List.mem_flatten.1 ht;rcases List.mem_or_eq_of_mem_set (show e∈xs.set q.1 q.2 from h1)with h3|rfl
     ·have:=Qo e h3 t h2;cases t<;>first|rfl |simp[fz]at this
     ·exact List.all_eq_true.1 Zs t h2
    -- to an array that is there
    have main:∀{es:List (List TV)} {Fh:List (Nat×List TV)} {Sq:Ft} {S:Nat→Ft} {b f t0 eg aF m cap:Nat} {cs:List Value} {y:TO},MO X ρ F o c h S→look o m=some y→S m=(f,true)::Sq→ρ m=some (.arr b zx es.length)→h.get b=some (.cells cs f t0 eg)→h.c8 b=some (f,b,aF)→aF≤b→X.base≤f→cs.length=es.length*zx→es.length≤cap→sv= .slice (some ⟨b,0,some zx⟩) es.length cap→
     (∀e∈es,e.length=zx)→(∀e∈es,∀t∈e,kM t=true)→(∀p∈Fh,p.1<es.length∧p.2.length=zx)→cp c ρ F h X.base Sq (cd es Fh).flatten cs→es.length+xs.length<1048576→K (.tk c) ((c,.bZ zx (es++xs) ((es.length+q.1,q.2)::Fh))::eI o m) (c+1) (.cU [m])→ee E X ρ F o c af h p K:=by
     intro es Fh Sq S b f t0 eg aF m cap cs y K0 hl hS hb hg hf ht dy cb fG tS kq bV jb hc jW hK;subst tS;rcases jD with e|⟨new,jL,_,wq,Je,hV⟩
     ·subst e;simp at pV
     ·refine DR H K0 (y2:=.bZ zx (es++xs) ((es.length+q.1,q.2)::Fh)) A hlen pV fin hp hq c9 hl hS hb hg hf ht dy oA cb fG (size jW) jL wq (V5 hV wq) (.inl rfl) (fun hm oI cE same hT DU jl wu Od BN Nh=>?_) hK;refine OR.RF (by rw[List.length_append];exact DU) jl wu Od BN oA ⟨by simp[cb,wq,Nat.add_mul],fun e he=>?_,fun e he=>?_,fun r hr=>?_,?_⟩
      ·rcases List.mem_append.1 he with h1|h1
       ·exact kq e h1
       ·exact Je e h1
      ·rcases List.mem_append.1 he with h1|h1
       ·exact bV e h1
       ·exact closed (Qo e h1)
      ·rcases List.mem_cons.1 hr with rfl |hr
       ·exact⟨by simp;omega,o2⟩
       ·have:=jb r hr;exact⟨by simp;omega,this.2⟩
      ·have:=(hc.bd H.wf same oI cE hm hT).join (cp.jx (base:=X.base) (hV.oH hm));rw[List.append_nil]at this;rw[Oc fun p hp=>(jb p hp).1,List.flatten_append];exact this
    split at hw
    ·rename_i z;split at hw
     ·rename_i hz;simp only[Bool.or_eq_true,beq_iff]at hz;obtain⟨jW,hK⟩:=hw;exact jh H A oA hlen jD fin hp hq c9 H (fun _ _ h=>h) (fun _ h=>h) w0 (emp hz hs) (size jW) (fun e=>by subst e;simp at pV) (V4 H) V2 hK
     ·exact hw.elim
    ·rename_i m;have FG:∀{y:TO},look o m=some y→wP y=true→BC y=0→G8 y=zx→(sv= .slice none 0 0∨∃b o cs,F b∧h.rd b=some cs∧0<G8 y∧o≤cs.length∧sv= .slice (some ⟨b,o,some (G8 y)⟩) 0 0)→xs.length<1048576→K (.tk c) ((c,.bZ zx xs [q])::eI o m) (c+1) (.cU [m])→ee E X ρ F o c af h p K:=by
      intro y hl hy h0 hz tS jW hK;obtain⟨M1,k1⟩:=H.gone hl hy;refine jh H (ns:=[m]) (y1:=.bZ zx xs [q]) (y2:=.bZ zx xs [q]) A oA hlen jD fin hp hq c9 M1 k1 (fun _ h=>h) (fun n y uq bc=>?_) (tS.imp id fun⟨b,o',cs,q1,q2,q3,q4,q5⟩=>⟨b,o',cs,q1,q2,q4,by rw[←hz];exact q5⟩) (size jW) (fun e=>by subst e;simp at pV) (V4 M1) V2 hK;have lR:n≠m:=by simpa using bc
      exact⟨⟨y,by rw[cZ,if_neg lR];exact uq⟩,aW _ _ lR⟩
     have Ks:tJ 0 [q]=[q]:=by simp[tJ]
     split at hw
     ·rename_i z es hl;split at hw
      ·rename_i hz;rw[beq_iff]at hz;subst hz;obtain⟨jW,hK⟩:=hw;obtain⟨S,K0⟩:=H.ex;have hO:=K0.bN m _ hl;generalize hS:S m=Sm at hO;have BM:=hO.tk rfl hs;cases hO with
       |nil hb iJ=>
        rcases BM with⟨h0,_,tS⟩|⟨b,cap,h1,_⟩
        ·exact FG hl rfl h0 rfl tS (by simpa using jW) (by simpa[Ks]using hK)
        ·rw[hb]at h1;cases h1
       |arr hb hg hf ht dy iJ cb kq fS hc hF=>
        rcases BM with⟨_,h1,_⟩|⟨b',cap,h1,fG,tS⟩
        ·rw[hb]at h1;cases h1
        ·rw[hb]at h1;cases h1;exact main (Fh:=[]) K0 hl hS hb hg hf ht dy cb fG tS kq (fun e he=>closed (fS e he)) (by simp) (cp.jx (fY cb kq hc)) jW hK
      ·exact hw.elim
     ·rename_i z es Fh hl;split at hw
      ·rename_i hz;rw[beq_iff]at hz;subst hz;obtain⟨jW,hK⟩:=hw;obtain⟨S,K0⟩:=H.ex;have hO:=K0.bN m _ hl;generalize hS:S m=Sm at hO;have BM:=hO.tk rfl hs;cases hO with
       |fD hb iJ=>
        rcases BM with⟨h0,_,tS⟩|⟨b,cap,h1,_⟩
        ·exact FG hl rfl h0 rfl tS (by simpa using jW) (by simpa[Ks]using hK)
        ·rw[hb]at h1;cases h1
       |bZ hb hg hf ht dy iJ cb kq bV jb hc=>
        rcases BM with⟨_,h1,_⟩|⟨b',cap,h1,fG,tS⟩
        ·rw[hb]at h1;cases h1
        ·rw[hb]at h1;cases h1;exact main K0 hl hS hb hg hf ht dy cb fG tS kq bV jb hc jW hK
      ·exact hw.elim
     ·exact hw.elim
    ·exact hw.elim
   ·exact hw.elim
  ·exact hw.elim
 ·exact hw.elim
end
section
variable {T E:Env} {X:Cx} {ρ:Gh} {F:Nat→Prop} {o:Ob} {c:Nat} {af:AF} {f:Fr} {h:ah} {p:Oper} {K:OK}
theorem ku:∀{ids:List (Option Nat)} {o:Ob} {n:Nat},(∀k:Nat,ids[k]? ≠some (some n))→look (ja ids o) n=look o n
 |[],o,n,_=>rfl
 |none::l,o,n,h=>ku (ids:=l) fun k=>by simpa using h (k+1)
 |some m::l,o,n,h=>by
  simp only[ja];rw[ku (ids:=l) fun k=>by simpa using h (k+1),cZ,if_neg];intro e;subst e;exact h 0 rfl
theorem rN:∀{ids:List (Option Nat)} {n:Nat},n∉lO ids→∀k:Nat,ids[k]? ≠some (some n)
 |[],n,_,k=>by simp
 |none::l,n,h,k=>by
  cases k with
  |zero=>simp
  |succ k=>simpa using rN (ids:=l) h k
 |some m::l,n,h,k=>by
  simp only[lO,List.mem_cons,not_or]at h;cases k with
  |zero=>simp;exact fun e=>h.1 e.symm
  |succ k=>simpa using rN (ids:=l) h.2 k
theorem sS:∀(sh:List Nat) (o:Ob) (n:Nat) (y:TO),look o n=some y→∃y',look (M.bQ sh o) n=some y'∧gR y y'
 |[],o,n,y,h=>⟨y,h,gR.refl _⟩
 |m::sh,o,n,y,h=>by
  obtain⟨y1,h1,h2⟩:=nb o m n y h;obtain⟨y2,h3,h4⟩:=sS sh _ n y1 h1;exact⟨y2,h3,h2.trans h4⟩
theorem iD (H:Mem X ρ F o c h) (sh:List Nat):∃F',nf X ρ c h F o F' (M.bQ sh o):=by
 obtain⟨F',h1,h2,h3⟩:=H.bQ sh;exact⟨F',h1,h2,h3,sS sh o⟩
theorem sU:∀{U:List Nat} {o:Ob} {n:Nat},n∉U→look (sM U o) n=look o n
 |[],o,n,_=>rfl
 |m::l,o,n,h=>by
  simp only[List.mem_cons,not_or]at h;simp only[sM];rw[sU h.2,cZ,if_neg h.1]
theorem Kt (NX:DC E X) (H:Mem X ρ F o c h) {g:FuncId} {args:List TV} {dJ:List Value} {st:Bool} (bU:st=true→DF E g) (hw:p7 st (VC E) g args o c K) (ha:dh c ρ F h args dJ) (hp:aB E af p=none) (hq:bt E af p=none) (c9:aV E af p=none)
 (he:cH E X.base af p h=some (.enter g dJ,h)):ee E X ρ F o c af h p K:=by
 obtain⟨sh,ids,U,Fk,o0,R,Zt,⟨iT,hO,hi⟩,hK⟩:=hw;simp only[Bool.and_eq_true]at hi;obtain⟨hi,hU⟩:=hi;obtain⟨F1,Sh⟩:=iD H sh;have H1:=Sh.mem;obtain⟨S,K1⟩:=H1.ex;obtain⟨S1,Ns,D⟩:=hO.told H1 K1 hi hU;obtain⟨hand,Ku⟩:=H1.hand K1 D;have Us:=Bs (zf:=DB o0) H1 _ _ _ iT (ha.oH Sh.bd);obtain⟨n0,v,h',ρ',F',r,o',c',fC,hR,MC,hr⟩:=Zt X.base _ F1 h S1 dJ (NX.now H1) hand Ku Us;obtain⟨MM,k1,k2,k3⟩:=H1.merge K1 hi D MC;have eY:h.size≤h'.size:=MC.my.size;have Oe:Raw ρ o h (ou ids c ρ ρ') (Dw (back ids c) o'++sM U (ja ids (bQ sh o))) h' (lO ids++U):=fun n y hl bc=>by
  simp only[List.mem_append,not_or]at bc;have hn:=rN bc.1;have CT:=H.lt hl;obtain⟨y1,q1,q2⟩:=Sh.wk n y hl;have G4:=k3 n y1 q1 hn bc.2;refine⟨⟨y1,?_⟩,tN hn CT,fun b hb=>?_⟩
  ·rw[iA];split
   ·rename_i y3 h3;obtain⟨k,y4,e1,_,_⟩:=rD (fun k k'=>uU hi) h3;exfalso;unfold back at e1;split at e1
    ·rename_i m hm;subst e1;exact hn k hm
    ·omega
   ·rw[sU bc.2,ku hn];exact q1
  ·obtain⟨Jo,hh⟩:=H1.zT K1 q1 hb;have VT:¬kp S1 o0 (hd h b):=G4 _ hh;have hg:=MC.my.bd b Jo VT;refine⟨hg,fun cs hr=>?_⟩;obtain⟨r,a1,a2,a3⟩:=rd_some hr;obtain⟨f1,t1,ue,mO⟩:=di a3;obtain⟨cr,mC⟩:=bw a1;obtain⟨qV,p1,p2,kG⟩:=dr a1;rw[mO]at kG;cases kG;have wv:=MC.my.bd r.1 (H.wf.lt mC) (by
    have:hd h r.1=hd h b:=by rw[bH mC,bH mO]
    show¬kp S1 o0 (hd h r.1);rw[this];exact VT)
   exact dq (bu (hg.trans mO) (wv.trans mC)) a2 (au (hg.trans mO))
 refine⟨n0,⟨v,h',.cU h h'⟩,r.km (back ids c),_,_,_,F',RB st o0 (lO ids++U),fun n hn=>?_,hK r o' c' hR,⟨MM,fun t x hx=>k1 t x (Sh.bd t x hx),eY,fun b hb=>MC.F0 b (Sh.FF b hb),fun b cs hb ft=>(MC.my.cE b (Sh.FF b hb)).trans ft⟩,k2 _ _ hr,?_⟩
 ·unfold dR;rw[hp,hq,c9,he];simp only
  rw[u3 hn _ _ _ _ fC];rfl
 ·unfold RB;split
  ·rename_i hs;exact .mu Oe (bU rfl _ _ _ _ _ _ fC)
  ·split
   ·rename_i y9;rw[y9]at Oe;exact .mw Oe fun b hb=>MC.my.bd b hb fun⟨k,y,q,_⟩=>by simp[look]at q
   ·exact .cU Oe
end
end Go.M
