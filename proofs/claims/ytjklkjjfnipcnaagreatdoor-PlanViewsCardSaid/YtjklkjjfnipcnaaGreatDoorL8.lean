/-
  Part 8 of the library that the proof leans on.
-/
import Derived.Test.YtjklkjjfnipcnaaGreatDoorL7
noncomputable section
namespace Go.M
open Go
section
variable {T E:Env} {X:Cx} {ρ:Gh} {F:Nat→Prop} {o:Ob} {c:Nat} {af:AF} {f:Fr} {h:ab} {p:Oper} {K:OK}
theorem dG.ck (_:Mem X ρ F o c h) {v:TV} {x:Value} {h':ab} {ρ':Gh} {F':Nat→Prop} {o':Ob} {c':Nat} {ns:List Nat} (hp:aB E af p=none) (hq:ba E af p=none) (ha:aP E af p=none)
 (he:bT E X.base af p h=some (.val x,h')) (hN:Nx X ρ F o c h ρ' F' o' c' h') (hv:VR c' ρ' F' h' v x) (hr:Raw ρ o h ρ' o' h' ns) (hK:K v o' c' (.ck ns)):dG E X ρ F o c af h p K:=by
 refine⟨0,⟨x,h',.ck h h'⟩,v,o',c',ρ',F',.ck ns,fun n _=>?_,hK,hN,hv,.ck hr⟩;unfold cV;rw[hp,hq,ha,he]
theorem qe (H:Mem X ρ F o c h) {F1:Nat→Prop} {o1:Ob} (Sh:mX X ρ c h F o F1 o1) {S:Nat→Ft} (K1:MO X ρ F1 o1 c h S) {m:Nat} {y y':TO} {h':ab} (hl:look o1 m=some y) {x:Nat} (Wl:x∈cu (S m))
 (same:∀z,z<h.size→hd h z≠x→h'.get z=h.get z):Raw ρ o h ρ (dQ o1 m y') h' [m]:=by
 intro n yn hn aX;have lL:n≠m:=by simpa using aX
 obtain⟨y1,k1,k2⟩:=Sh.wk n yn hn;refine⟨⟨y1,by rw[dk,if_neg lL];exact k1⟩,rfl,fun b hb=>?_⟩;obtain⟨q1,q2⟩:=Sh.mem.zd K1 k1 hb;have Qd:hd h b≠x:=fun e=>by
  rw[e]at q2;exact lL (K1.ey n m y1 y _ k1 hl q2 Wl)
 exact⟨same b q1 Qd,fun cs hr=>ib H.wf same Qd hr⟩
theorem AY (_:Mem X ρ F o c h) {F1:Nat→Prop} {o1:Ob} (S:mX X ρ c h F o F1 o1) {ρ':Gh} {F2:Nat→Prop} {o2:Ob} {c2:Nat} {h':ab} (M:Mem X ρ' F2 o2 c2 h') (hk:∀t x,VR c ρ F1 h t x→VR c2 ρ' F2 h' t x) (hF:∀b,F1 b→F2 b)
 (cI:h.size≤h'.size) (cA:∀b cs,F b→h.rd b=some cs→h'.rd b=some cs):Nx X ρ F o c h ρ' F2 o2 c2 h':=
 ⟨M,fun t x hx=>hk t x (S.bf t x hx),cI,fun b hb=>hF b (S.FF b hb),cA⟩
theorem DU {t:TV} {x:Value} (ho:we t=true) (hv:VR c ρ F h t x):dW x=true:=by
 cases hv with
 |s hp=>cases x<;>simp[ar]at hp<;>rfl
 |tk hn nJ=>cases x<;>simp[E3]at nJ;rfl
 |wp hn nJ=>cases x<;>simp[OT]at nJ;rfl
 |j=>simp[we]at ho
 |agg=>simp[we]at ho
 |dH=>simp[we]at ho
 |sv=>simp[we]at ho
 |pv=>simp[we]at ho
 |_=>rfl
theorem tB:∀{l:List TV} {m:List Value},l.all we=true→cX c ρ F h l m→m.all dW=true
 |[],m,_,H=>by rw[H.bu];rfl
 |t::l,m,ho,H=>by
  simp only[List.all_cons,Bool.and_eq_true]at ho;obtain⟨v,m',rfl,h1,h2⟩:=H.aG;simp only[List.all_cons,Bool.and_eq_true];exact⟨DU ho.1 h1,tB ho.2 h2⟩
def HG (E:Env) (base:Nat) (t:TypeId) (a v:Value) (h:ab):Option (iL×ab):=(E.size t).bind fun n=>(gF a).bind fun p=>
      aW (Nat.beq v.cells.size n&&v.cells.toList.all dW)<|(h.rd p.1).bind fun cs=>(cB cs p.2 v.cells.toList).bind fun cs'=>(h.wr base p.1 cs').bind fun h'=>some (.val undef,h')
theorem AZ {α:Type} {v1 v2 v3 OY xs:List α} {p:Nat} (h:cB v2 p xs=some OY):cB (v1++(v2++v3)) (v1.length+p) xs=some (v1++(OY++v3)):=by
 obtain⟨s1,s2,s3⟩:=cH h;obtain⟨r,hr⟩:=ke (n:=v1.length+p) (l:=v1++(v2++v3)) (xs:=xs) (by simp;omega);rw[hr]
 congr 1
 rw[jh hr,jh h];rw[List.take_length_add_append,List.drop_length_add_append,List.take_append_of_le_length om,List.drop_append_of_le_length om,List.drop_append_of_le_length (by rw[List.length_drop];omega)];simp[List.append_assoc]
theorem b8.cB {base:Nat} {S:Ft} {l xs r:List TV} {m ys:List Value} {p:Nat} (H:b8 c ρ F h base S l m) (hs:M.cB l p xs=some r) (hx:cX c ρ F h xs ys):∃m' S',M.cB m p ys=some m'∧b8 c ρ F h base S' r m'∧S'.Sublist S:=by
 obtain⟨s1,s2,s3⟩:=cH hs;have hlen:=H.len;obtain⟨m',hm⟩:=ke (n:=p) (l:=m) (xs:=ys) (by rw[←hx.1,←hlen];exact s1);obtain⟨S1,S2,S3,rfl,a1,a2,a3⟩:=H.part p xs.length;refine⟨m',S1++S3,hm,?_,(List.sublist_append_right S2 S3).append_left S1⟩;rw[jh hs,jh hm,←hx.1];exact a1.join ((b8.j9 (base:=base) hx).join a3)
theorem u3 {α:Type} {l:List α} {i:Nat} {e:α} (he:l[i]? =some e):l.set i e=l:=by
 refine List.ext_getElem? fun k=>?_;rw[List.getElem?_set];by_cases ek:i=k
 ·subst ek;rw[if_pos rfl,if_pos (List.getElem?_eq_some_iff.1 he).1,he]
 ·rw[if_neg ek]
theorem Fs (L:bV T E) (H:Mem X ρ F o c h) {t:TypeId} {a v:TV} {av vv:Value} (hw:Cw T t a v o c K) (ha:VR c ρ F h a av) (hv:VR c ρ F h v vv) (hp:aB E af p=none) (hq:ba E af p=none) (dx:aP E af p=none)
 (he:bT E X.base af p h=HG E X.base t av vv h):dG E X ρ F o c af h p K:=by
 unfold Cw at hw;split at hw
 ·exact hw.elim
 ·rename_i n hn;split at hw
  ·exact hw.elim
  ·rename_i hc;simp only[Bool.and_eq_true,beq_iff]at hc;obtain⟨⟨DV,hlen⟩,iP⟩:=hc;have re:=gU hv DV;have jE:=tB iP re;have cI:vv.cells.size=n:=by have:=re.1;simp only[Array.length_toList]at this;omega
   have go:∀b q cs cs' h',av= .pointer (some ⟨b,q,none⟩)→h.rd b=some cs→cB cs q vv.cells.toList=some cs'→h.wr X.base b cs'=some h'→bT E X.base af p h=some (.val undef,h'):=by
    rintro b q cs cs' h' rfl h1 h2 h3;rw[he];unfold HG;simp only[L.size _ _ hn,Option.bind_some,gF,cI,jE,h1,h2,h3,aW];simp
   split at hw
   ·rename_i m q;split at hw
    ·rename_i cs hl;split at hw
     ·rename_i qJ gN;obtain⟨S,K0⟩:=H.ex;have hO:=K0.bR m _ hl;generalize hS:S m=Sm at hO;cases hO with
      |cells hb hg wi hc=>
       rename_i Sq b aE X9;cases ha with
       |ptr bE=>
        rw[hb]at bE;cases bE;have fj:=cJ (bp hg hg) wi (au hg);obtain⟨Qe,S',h1,h2,h3⟩:=hc.cB gN re;have LI:(b,true)∈S m:=by rw[hS];exact List.mem_cons_self
        have oz:=K0.dF m _ b hl (df LI);have lM:=K0.zL m _ hl;rw[hS]at lM;obtain⟨n1,n2⟩:=List.nodup_cons.1 lM;have p8:((b,true)::S').Sublist ((b,true)::Sq):=h3.cons_cons _;have W:=yX (cs':=Qe) H.wf hg (bp hg hg);obtain⟨t',Ry,jy⟩:=W.self;obtain⟨M,hk⟩:=H.set K0 (y':=.cells qJ) (S0:=(b,true)::S') hl LI (fun p hp=>by rw[hS];exact p8.subset hp) (show(cu _).Nodup from List.Sublist.nodup (p8.map Prod.fst) lM) W.size W.wf W.same W.cu fun hm cA=>by
         refine .cells hb (aE:=b) (cs':=Qe) ?_ (Nat.le_refl _) (h2.bf (T:=fun x=>x=b) H.wf W.same (fun _ h=>h) cA hm fun x hx e=>?_)
         ·obtain⟨c0,bK⟩:=bz W.cW;simp only at bK;rw[jy]at bK;rw[jy,Option.some.injEq,dV.cells.injEq]at*
          obtain⟨_,_,e3,e4⟩:=bK;exact⟨rfl,rfl,e3,e4⟩
         ·subst e;exact n1 ((h3.map Prod.fst).subset hx)
        refine dG.ck H hp hq dx (go _ _ _ _ _ rfl fj h1 (DL hg (bp hg hg) oz.1 oz.1)) (AY H (.refl H) M hk (fun _ h=>h) (by rw[W.size];exact Nat.le_refl _) fun b' cs' bE jA=>ib H.wf W.same (K0.apart m _ _ b' hl LI bE) jA) (.j _)
         (qe H (.refl H) K0 hl (df LI) W.same) hw
     ·exact hw.elim
    ·exact hw.elim
   ·rename_i m i q
    -- a row of which each cell may name an object
    have row:∀{y:TO} {b f t0 ee aE z:Nat} {es:List (List TV)} {e e1:List TV} {Sq:Ft} {cs:List Value} {S:Nat→Ft},MO X ρ F o c h S→look o m=some y→S m=(f,true)::Sq→ρ m=some (.arr b z es.length)→h.get b=some (.cells cs f t0 ee)→h.cW b=some (f,b,aE)→aE≤b→X.base≤f→0<z→cs.length=es.length*z→
     (∀e∈es,e.length=z)→(∀e∈es,∀t∈e,kI t=true)→i<es.length→e.length=z→av= .pointer (some ⟨b,i*z+q,none⟩)→b8 c ρ F h X.base Sq (es.set i e).flatten cs→cB e q (ay v)=some e1→K .j (dQ o m (.cm z es [(i,e1)])) c (.ck [m])→dG E X ρ F o c af h p K:=by
     intro y b f t0 ee aE z es e e1 Sq cs S K0 hl hS hb hg hf wi dc hz hlen jL bL hi Gu OZ hc gN hw;obtain⟨S1,S2,S3,v1,v2,v3,rfl,rfl,a1,a2,a3⟩:=fF jL hi hc;obtain⟨OY,Km,h1,h2,h3⟩:=a2.cB gN re;have Wm:v1.length=i*z:=by
      have h1:=a1.len;obtain⟨e0,Wn⟩:∃e0,es[i]? =some e0:=⟨_,List.getElem?_eq_getElem hi⟩;have:=(dI jL Wn).2;rw[Nat.add_mul]at this;rw[←h1,List.length_take];omega
     have Qf:cB (v1++(v2++v3)) (i*z+q) vv.cells.toList=some (v1++(OY++v3)):=by rw[←Wm];exact AZ h1
     have fj:=cJ hf wi (au hg);have wg:(f,true)∈S m:=by rw[hS];exact List.mem_cons_self
     have oz:=K0.dF m _ f hl (df wg);have lM:=K0.zL m _ hl;rw[hS]at lM;obtain⟨n1,n2⟩:=List.nodup_cons.1 lM;have LJ:(S1++(Km++S3)).Sublist (S1++(S2++S3)):=(h3.append_right S3).append_left S1;have p8:((f,true)::(S1++(Km++S3))).Sublist ((f,true)::(S1++(S2++S3))):=LJ.cons_cons _;have HH:X.base≤b:=by have:=H.wf.le _ _ _ _ _ hg;omega
     have W:=yX (cs':=v1++(OY++v3)) H.wf hg hf;obtain⟨t',Ry,jy⟩:=W.self;have Wo:e1.length=z:=by rw[(cH gN).2.1];exact Gu
     have zG:OY.length=v2.length:=(cH h1).2.1;obtain⟨M,hk⟩:=H.set K0 (y':=.cm z es [(i,e1)]) (S0:=(f,true)::(S1++(Km++S3))) hl wg (fun p hp=>by rw[hS];exact p8.subset hp) (show(cu _).Nodup from List.Sublist.nodup (p8.map Prod.fst) lM) W.size W.wf W.same W.cu fun hm cA=>by
      refine .cm hb jy W.cW (Nat.le_refl _) dc hz (by rw[←hlen];simp[zG]) jL bL (fun p hp=>?_) ((jn jL hi a1 h2 a3).bf (T:=fun x=>x=f) H.wf W.same (fun _ h=>h) cA hm fun x hx e=>?_)
      ·simp only[List.mem_singleton]at hp;subst hp;exact⟨hi,Wo⟩
      ·subst e;exact n1 ((LJ.map Prod.fst).subset hx)
     refine dG.ck H hp hq dx (go _ _ _ _ _ OZ fj Qf (DL hg hf HH dc)) (AY H (.refl H) M hk (fun _ h=>h) (by rw[W.size];exact Nat.le_refl _) fun b' cs' bE jA=>ib H.wf W.same (K0.apart m _ _ b' hl wg bE) jA) (.j _)
      (qe H (.refl H) K0 hl (df wg) W.same) hw
    split at hw
    ·rename_i l qB fy;split at hw
     ·rename_i z es hl;obtain⟨e,jL,hw⟩:=hw;split at hw
      ·rename_i e1 gN;obtain⟨F1,Sh,sv⟩:=nP (ay v) H;have H1:=Sh.mem;have wu:=sv l _ fy re;obtain⟨f1,f2⟩:=tA fy;obtain⟨b,z1,l1,hb,rfl⟩:=qY H1 hl rfl (Sh.bf _ _ ha);obtain⟨S,K1⟩:=H1.ex;have hO:=K1.bR m _ hl;generalize hS:S m=Sm at hO;cases hO with
       |nil bE hz=>rw[hb]at bE;cases bE
       |arr bE hg hf wi dc hz bY sX wC jW hF=>
        rename_i f t0 ee aE cs;rw[hb]at bE;cases bE;have hE:ER c ρ F1 h z es cs:=⟨bY,sX,wC,jW⟩;have fj:=cJ hf wi (au hg);have hi:i<es.length:=(List.getElem?_eq_some_iff.1 jL).1;have Gu:=sX e (List.mem_of_getElem? jL);obtain⟨s1,s2,s3⟩:=cH gN;have Ll:vv.cells.toList.length=l.length:=wu.1.symm;have hle:(i+1)*z≤es.length*z:=Nat.mul_le_mul_right z hi;rw[Nat.add_mul]at hle;obtain⟨qJ,ze⟩:=ke (n:=i*z+q) (l:=cs) (xs:=vv.cells.toList) (by rw[bY,Ll];omega);obtain⟨t1,t2,t3⟩:=cH ze;have wg:(f,true)∈S m:=by rw[hS];exact List.mem_cons_self
        have oz:=K1.dF m _ f hl (df wg);have HH:X.base≤b:=by
         have:=H1.wf.le _ _ _ _ _ hg;omega
        have W:=yX (cs':=qJ) H.wf hg hf;obtain⟨t',Ry,jy⟩:=W.self;have Qc:ER c ρ F1 h z (es.set i e1) qJ:=by
         refine hE.setAt (i:=i) (l:=e1) (fun j=>?_) (by simp) hi (by rw[s2,Gu]) (fun t ht=>?_) t2 (fun j t v q1 q2=>?_) (fun k hk=>?_)
         ·rw[List.getElem?_set];by_cases ej:i=j
          ·subst ej;rw[if_pos rfl,if_pos rfl,if_pos hi]
          ·rw[if_neg ej,if_neg (fun e=>ej e.symm)]
         ·obtain⟨j,hj⟩:=List.getElem?_of_mem ht;rw[s3]at hj;split at hj
          ·exact f1 t (List.mem_of_getElem? hj)
          ·exact wC e (List.mem_of_getElem? jL) t (List.mem_of_getElem? hj)
         ·rw[s3]at q1;rw[t3]at q2;split at q1
          ·rename_i hj;rw[if_pos ⟨om,om⟩]at q2;exact wu.2 (j - q) t v q1 (by rw[←q2];congr 1;omega)
          ·rename_i hj;rw[if_neg om]at q2;exact jW i j e t v jL q1 q2
         ·rw[t3,if_neg];rw[Nat.add_mul]at hk;omega
        obtain⟨M,hk⟩:=H1.set K1 (y':=.arr z true (es.set i e1)) (S0:=[(f,true)]) hl wg (fun p hp=>by simp only[List.mem_singleton]at hp;subst hp;exact wg) (by simp[cu]) W.size W.wf W.same W.cu fun hm _=>
         OR.Hk (by simp[hb]) jy W.cW (Nat.le_refl _) dc hz (Qc.mono hm) (fun h=>by cases h)
        refine dG.ck H hp hq dx (go _ _ _ _ _ rfl fj ze (DL hg hf HH dc)) (AY H Sh M hk (fun _ h=>h) (by rw[W.size];exact Nat.le_refl _) fun b' cs' bE jA=>ib H.wf W.same (K1.apart m _ _ b' hl wg (Sh.FF _ bE)) jA) (.j _)
         (qe H Sh K1 hl (df wg) W.same) hw
      ·exact hw.elim
     ·exact hw.elim
    ·rename_i z es hl fy;obtain⟨e,jL,hw⟩:=hw;split at hw
     ·rename_i e1 gN;obtain⟨b,z1,l1,hb,OZ⟩:=qY H hl rfl ha;obtain⟨S,K0⟩:=H.ex;have hO:=K0.bR m _ hl;generalize hS:S m=Sm at hO;cases hO with
      |nil bE hz=>rw[hb]at bE;cases bE
      |arr bE hg hf wi dc hz bY sX wC jW hF=>
       rw[hb]at bE;cases bE;have hi:i<es.length:=(List.getElem?_eq_some_iff.1 jL).1;refine row K0 hl hS hb hg hf wi dc hz bY sX (fun e he t ht=>?_) hi (sX e (List.mem_of_getElem? jL)) OZ (by rw[u3 jL];exact b8.j9 (fJ bY sX jW)) gN hw;have:=wC e he t ht;unfold kI;split<;>first|rfl |exact this
     ·exact hw.elim
    ·rename_i z es op hl;obtain⟨b,z1,l1,hb,OZ⟩:=qY H hl rfl ha;obtain⟨S,K0⟩:=H.ex;have hO:=K0.bR m _ hl;generalize hS:S m=Sm at hO;cases hO with
     |fi bE hz=>rw[hb]at bE;cases bE
     |cm bE hg hf wi dc hz bY sX bL e7 jW=>
      rw[hb]at bE;cases bE;unfold DC at hw;split at hw
      ·obtain⟨e,jL,hw⟩:=hw;split at hw
       ·rename_i e1 gN;have hi:i<es.length:=(List.getElem?_eq_some_iff.1 jL).1;exact row K0 hl hS hb hg hf wi dc hz bY sX bL hi (sX e (List.mem_of_getElem? jL)) OZ (by rw[u3 jL];exact jW) gN hw
       ·exact hw.elim
      ·rename_i j ej;obtain⟨o1,o2⟩:=e7 (j,ej) (by simp);by_cases OX:i=j
       ·subst OX;have hw:=hw.1 rfl;simp only at hw;split at hw
        ·rename_i e1 gN;exact row K0 hl hS hb hg hf wi dc hz bY sX bL o1 o2 OZ jW gN hw
        ·exact hw.elim
       ·obtain⟨_,_,hw⟩:=hw.2 OX;exact hw.elim
      ·obtain⟨_,_,hw⟩:=hw;exact hw.elim
    ·exact hw.elim
   ·exact hw.elim
def u4 (E:Env) (base:Nat) (t:TypeId) (m k v:Value) (h:ab):Option (iL×ab):=(lf E base h t m k v).bind fun h'=>some (.val undef,h')
theorem kU (H:Mem X ρ F o c h) {F1:Nat→Prop} {o1:Ob} (Sh:mX X ρ c h F o F1 o1) {S:Nat→Ft} (K1:MO X ρ F1 o1 c h S) {n:Nat} {y y':TO} {b clock clock':Nat} {ev gA:List MapEntry} {Sq S':Ft} (hl:look o1 n=some y) (hS:S n=(b,true)::Sq) (hg:h.get b=some (.map ev clock))
 (p8:∀p∈S',p∈Sq) (DI:(cu S').Nodup) {x:Value} {v:TV} (hp:aB E af p=none) (hq:ba E af p=none) (dx:aP E af p=none) (he:bT E X.base af p h=some (.val x,h.put b (.map gA clock'))) (hv:∀c ρ F h,VR c ρ F h v x)
 (uI:∀h',(∀t v,VR c ρ F1 h t v→VR c ρ F1 h' t v)→(∀b',b'<h.size→¬(hd h b'=b)→h'.get b'=h.get b')→(∀b cs,F1 b→h.rd b=some cs→h'.rd b=some cs)→h'.get b=some (.map gA clock')→(∀x∈cu S',x≠b)→OR c ρ F1 h' X.base n ((b,true)::S') y')
 (hK:K v (dQ o1 n y') c (.ck [n])):dG E X ρ F o c af h p K:=by
 have H1:=Sh.mem;have LI:(b,true)∈S n:=by rw[hS];exact List.mem_cons_self
 have lM:=K1.zL n _ hl;rw[hS]at lM;obtain⟨n1,n2⟩:=List.nodup_cons.1 lM;have k8:∀x∈cu S',x≠b:=fun x hx e=>by
  subst e;obtain⟨q,hq,e⟩:=List.mem_map.1 hx;exact n1 (List.mem_map.2 ⟨q,p8 q hq,e⟩)
 have Vb:hd h b=b:=by simp[hd,hg]
 have b7:∀x,(h.put b (.map gA clock')).get x=if x=b then some (.map gA clock')else h.get x:=fun x=>ab.br _ _ _ _
 have same:∀x,x<h.size→hd h x≠b→(h.put b (.map gA clock')).get x=h.get x:=fun x _ hx=>by
  rw[b7,if_neg];intro e;subst e;exact hx Vb
 have MS:∀x,hd (h.put b (.map gA clock')) x=hd h x:=fun x=>by
  by_cases e:x=b
  ·subst e;rw[Vb];unfold hd;rw[b7,if_pos rfl]
  ·unfold hd;rw[b7,if_neg e]
 have zU:Wf (h.put b (.map gA clock')):=by
  have Lh:=H.wf.lt hg;refine⟨fun x hx=>?_,fun x cs f t th hx=>?_⟩
  ·rw[ab.size_put]at hx;rw[b7,if_neg om];exact H.wf.high x hx
  ·rw[b7]at hx;split at hx
   ·cases hx
   ·exact H.wf.le _ _ _ _ _ hx
 obtain⟨M,hk⟩:=H1.set K1 (y':=y') (S0:=(b,true)::S') hl LI (fun p hp=>by
  rw[hS];rcases List.mem_cons.1 hp with rfl |hp
  ·exact List.mem_cons_self
  ·exact List.mem_cons_of_mem _ (p8 p hp)) (List.nodup_cons.2 ⟨fun hx=>k8 b hx rfl,DI⟩) (ab.size_put _ _ _) zU same MS fun hm cA=>
  uI _ hm same cA (by rw[b7,if_pos rfl]) k8
 exact dG.ck H hp hq dx he (AY H Sh M hk (fun _ h=>h) (by rw[ab.size_put];exact Nat.le_refl _) fun b' cs' bE jA=>ib H.wf same (K1.apart n _ _ b' hl LI (Sh.FF _ bE)) jA) (hv _ _ _ _)
  (qe H Sh K1 hl (df LI) same) hK
theorem map_set (H:Mem X ρ F o c h) {F1:Nat→Prop} {o1:Ob} (Sh:mX X ρ c h F o F1 o1) {n kn:Nat} {es Qb:List (Value×TV)} {b clock clock':Nat} {ev gA:List MapEntry} (hl:look o1 n=some (.map kn es)) (hb:ρ n=some (.cO b)) (hg:h.get b=some (.map ev clock))
 (hE:rk c ρ F1 h kn Qb gA) (bA:ox gA clock') {x:Value} {v:TV} (hp:aB E af p=none) (hq:ba E af p=none) (dx:aP E af p=none) (he:bT E X.base af p h=some (.val x,h.put b (.map gA clock'))) (hv:∀c ρ F h,VR c ρ F h v x)
 (hK:K v (dQ o1 n (.map kn Qb)) c (.ck [n])):dG E X ρ F o c af h p K:=by
 obtain⟨S,K1⟩:=Sh.mem.ex;have hO:=K1.bR n _ hl;generalize hS:S n=Sm at hO;cases hO with
 |map bE jy nH jW GN=>
  rw[hb]at bE;cases bE;exact kU H Sh K1 (S':=[]) hl hS hg (by simp) (by simp[cu]) hp hq dx he hv (fun h' hm same cA HI _=>.map hb HI hE.1 (fun i e e' q1 q2=>let⟨r1,r2,r3,r4⟩:=hE.2 i e e' q1 q2;⟨r1,r2,r3,hm _ _ r4⟩) bA) hK
end
section
variable {T E:Env} {X:Cx} {ρ:Gh} {F:Nat→Prop} {o:Ob} {c:Nat} {af:AF} {f:Fr} {h:ab} {p:Oper} {K:OK}
theorem u5 {kd:TypeDesc} {k:Value} {n:Nat} (hk:kindOk kd k n=true):∀{es:List (Value×TV)} {bC:List MapEntry} (i:Nat),rk c ρ F h n es bC→
 (Instr.findNow kd k bC i=some none∧(∀v,c8 es k v=es++[(k,v)])∧oX es k=es)∨
 ∃j x,j<es.length∧Instr.findNow kd k bC i=some (some (i+j,x))∧(∀v,c8 es k v=es.set j (k,v))∧oX es k=es.eraseIdx j
 |[],bC,i,H=>by rw[H.bu];exact .inl ⟨rfl,fun _=>rfl,rfl⟩
 |e::es,bC,i,H=>by
  obtain⟨e',m,rfl,h1,h2,h3,h4,h5⟩:=H.aG;unfold Instr.findNow;rw[h1,iD hk h2.2];cases hq:ov k e.1 with
  |true=>exact .inr ⟨0,e'.val,by simp,rfl,fun v=>by simp[c8,hq],by simp[oX,hq]⟩
  |false=>
   simp only
   rcases u5 hk (i+1) h5 with⟨q1,q2,q3⟩|⟨j,x,q0,q1,q2,q3⟩
   ·exact .inl ⟨q1,fun v=>by simp[c8,hq,q2],by simp[oX,hq,q3]⟩
   ·exact .inr ⟨j+1,x,by simp;omega,by rw[q1];congr 3;omega,fun v=>by simp[c8,hq,q2],by simp[oX,hq,q3]⟩
theorem rk.mono {kn c':Nat} {ρ':Gh} {F':Nat→Prop} {h':ab} {es:List (Value×TV)} {ev:List MapEntry} (H:rk c ρ F h kn es ev) (hm:∀t v,VR c ρ F h t v→VR c' ρ' F' h' t v):rk c' ρ' F' h' kn es ev:=
 ⟨H.1,fun i e e' q1 q2=>let⟨r1,r2,r3,r4⟩:=H.2 i e e' q1 q2;⟨r1,r2,r3,hm _ _ r4⟩⟩
theorem rk.tC {kn:Nat} {es:List (Value×TV)} {ev:List MapEntry} (H:rk c ρ F h kn es ev) {k:Value} {v:TV} {x:Value} (hk:0<kn∧aR k=kn) (hf:Ap v=true) (hv:VR c ρ F h v x) (b:Nat):rk c ρ F h kn (es++[(k,v)]) (ev++[{key:=k,val:=x,born:=b}]):=by
 refine⟨by simp[H.1],fun i e e' q1 q2=>?_⟩;by_cases hi:i<es.length
 ·rw[List.getElem?_append_left hi]at q1;rw[List.getElem?_append_left (by rw[←H.1];exact hi)]at q2;exact H.2 i e e' q1 q2
 ·rw[List.getElem?_append_right om]at q1;rw[List.getElem?_append_right (by rw[←H.1];omega),←H.1]at q2;have:i - es.length=0:=by
   rcases Nat.eq_zero_or_pos (i - es.length)with h0|h0
   ·exact h0
   ·rw[List.getElem?_eq_none (by simp;omega)]at q1;cases q1
  rw[this]at q1 q2;simp at q1 q2;subst q1;subst q2;exact⟨rfl,hk,hf,hv⟩
theorem rk.set {kn:Nat} {es:List (Value×TV)} {ev:List MapEntry} (H:rk c ρ F h kn es ev) {k:Value} {v:TV} {x:Value} (hk:0<kn∧aR k=kn) (hf:Ap v=true) (hv:VR c ρ F h v x) (j:Nat):rk c ρ F h kn (es.set j (k,v)) (ev.modify j fun e=>{e with key:=k,val:=x}):=by
 refine⟨by simp[H.1],fun i e e' q1 q2=>?_⟩;rw[List.getElem?_set]at q1;rw[List.getElem?_modify]at q2;by_cases e0:j=i
 ·subst e0;rw[if_pos rfl]at q1;split at q1
  ·cases q1;cases hq:ev[j]? with
   |none=>rw[hq]at q2;simp at q2
   |some a=>rw[hq]at q2;simp at q2;subst q2;exact⟨rfl,hk,hf,hv⟩
  ·cases q1
 ·rw[if_neg e0]at q1;cases hq:ev[i]? with
  |none=>rw[hq]at q2;simp at q2
  |some a=>
   rw[hq]at q2;simp[e0]at q2;subst q2;exact H.2 i e _ q1 hq
theorem rk.erase {kn:Nat} {es:List (Value×TV)} {ev:List MapEntry} (H:rk c ρ F h kn es ev) (j:Nat):rk c ρ F h kn (es.eraseIdx j) (ev.eraseIdx j):=by
 refine⟨by rw[List.length_eraseIdx,List.length_eraseIdx,H.1],fun i e e' q1 q2=>?_⟩;rw[List.getElem?_eraseIdx]at q1 q2;split at q1
 ·rename_i bO;rw[if_pos bO]at q2;exact H.2 _ _ _ q1 q2
 ·rename_i bO;rw[if_neg bO]at q2;exact H.2 _ _ _ q1 q2
theorem ox.tC {ev:List MapEntry} {clock:Nat} (H:ox ev clock) {k v:Value}:ox (ev++[{key:=k,val:=v,born:=clock}]) (clock+1):=by
 refine⟨fun x hx=>?_,?_⟩
 ·rcases List.mem_append.1 hx with hx|hx
  ·have:=H.1 x hx;omega
  ·simp at hx;subst hx;simp
 ·rw[List.map_append,List.nodup_append];refine⟨H.2,by simp,fun a ha b hb=>?_⟩;obtain⟨x,hx,rfl⟩:=List.mem_map.1 ha;simp at hb;subst hb;have:=H.1 x hx;omega
theorem ox.modify {ev:List MapEntry} {clock:Nat} (H:ox ev clock) (j:Nat) {f:MapEntry→MapEntry} (hf:∀e,(f e).born=e.born):ox (ev.modify j f) clock:=by
 have h1:(ev.modify j f).map (·.born)=ev.map (·.born):=by
  apply List.ext_getElem?;intro i;rw[List.getElem?_map,List.getElem?_map,List.getElem?_modify];cases ev[i]? with
  |none=>simp
  |some e=>by_cases h:j=i<;>simp[h,hf]
 refine⟨fun x hx=>?_,by rw[h1];exact H.2⟩;have:x.born∈(ev.modify j f).map (·.born):=List.mem_map.2 ⟨x,hx,rfl⟩;rw[h1]at this;obtain⟨y,hy,e⟩:=List.mem_map.1 this;rw[←e];exact H.1 y hy
theorem ox.erase {ev:List MapEntry} {clock:Nat} (H:ox ev clock) (j:Nat):ox (ev.eraseIdx j) clock:=
 ⟨fun x hx=>H.1 x (List.mem_of_mem_eraseIdx hx),((List.eraseIdx_sublist ev j).map _).nodup H.2⟩
theorem Fu {v:TV} {x:Value} (hv:VR c ρ F h v x) (ho:okV v=true):cF v=eG x:=by
 cases hv with
 |j=>simp[okV,we]at ho
 |dH=>simp[okV,we]at ho
 |sv=>simp[okV,we]at ho
 |pv=>simp[okV,we]at ho
 |s hp=>cases x<;>first|rfl |simp[ar]at hp
 |tk _ h1=>cases x<;>first|rfl |simp[E3]at h1
 |wp _ h1=>cases x<;>first|rfl |simp[OT]at h1
 |_=>rfl
theorem u6 {kd:TypeDesc} {k:Value} {n:Nat} {v w:TV} (hk:kindOk kd k n=true):∀{es:List (Value×TV)},c8 (c8 es k w) k v=c8 es k v
 |[]=>by simp[c8,qd hk]
 |e::es=>by
  cases hq:ov k e.1 with
  |true=>simp[c8,hq,qd hk]
  |false=>simp[c8,hq,u6 hk]
theorem gj.il {base:Nat} {kd:TypeDesc} {k:Value} {n:Nat} (hk:kindOk kd k n=true) (qE:0<n∧aR k=n) {v:TV} {x:Value} (hv:b8 c ρ F h base [] (ay v) x.cells.toList) (ha:cF v=eG x) (b:Nat):∀{M:List (Value×TV)} {ev:List MapEntry} {S:Ft} (i:Nat),gj c ρ F h base n S M ev→
 (Instr.findNow kd k ev i=some none∧gj c ρ F h base n S (c8 M k v) (ev++[{key:=k,val:=x,born:=b}]))∨
 ∃j y S',Instr.findNow kd k ev i=some (some (i+j,y))∧gj c ρ F h base n S' (c8 M k v) (ev.modify j fun e=>{e with key:=k,val:=x})∧S'.Sublist S
 |[],ev,S,i,H=>by
  cases H;exact .inl ⟨rfl,gj.cons (e:=(k,v)) (S:=[]) (S':=[]) rfl qE ha hv .nil⟩
 |e::es,ev,S,i,H=>by
  cases H with
  |cons ft hH tW vZ hl=>
   rename_i Sa Sb e' m;unfold Instr.findNow;rw[ft,iD hk hH.2];cases hq:ov k e.1 with
   |true=>
    refine .inr ⟨0,e'.val,Sb,rfl,?_,List.sublist_append_right _ _⟩;simp only[c8,hq];exact gj.cons (e:=(k,v)) (S:=[]) rfl qE ha hv hl
   |false=>
    simp only[c8,hq];rcases gj.il hk qE hv ha b (i+1) hl with⟨q1,q2⟩|⟨j,y,S',q1,q2,q3⟩
    ·exact .inl ⟨q1,.cons ft hH tW vZ q2⟩
    ·exact .inr ⟨j+1,y,Sa++S',by rw[q1];congr 3;omega,.cons ft hH tW vZ q2,q3.append_left _⟩
theorem gj.del {base:Nat} {kd:TypeDesc} {k:Value} {n:Nat} (hk:kindOk kd k n=true):∀{M:List (Value×TV)} {ev:List MapEntry} {S:Ft} (i:Nat),gj c ρ F h base n S M ev→
 (Instr.findNow kd k ev i=some none∧oX M k=M)∨
 ∃j y S',Instr.findNow kd k ev i=some (some (i+j,y))∧gj c ρ F h base n S' (oX M k) (ev.eraseIdx j)∧S'.Sublist S
 |[],ev,S,i,H=>by cases H;exact .inl ⟨rfl,rfl⟩
 |e::es,ev,S,i,H=>by
  cases H with
  |cons ft hH tW vZ hl=>
   rename_i Sa Sb e' m;unfold Instr.findNow;rw[ft,iD hk hH.2];cases hq:ov k e.1 with
   |true=>exact .inr ⟨0,e'.val,Sb,rfl,by simp only[oX,hq];exact hl,List.sublist_append_right _ _⟩
   |false=>
    simp only[oX,hq];rcases gj.del hk (i+1) hl with⟨q1,q2⟩|⟨j,y,S',q1,q2,q3⟩
    ·exact .inl ⟨q1,by rw[q2]⟩
    ·exact .inr ⟨j+1,y,Sa++S',by rw[q1];congr 3;omega,.cons ft hH tW vZ q2,q3.append_left _⟩
theorem A0 {k:Value} {e:Value×TV}:∀{es:List (Value×TV)},e∈oX es k→e∈es
 |[],h=>by simp[oX]at h
 |a::l,h=>by
  unfold oX at h;split at h
  ·exact List.mem_cons_of_mem _ h
  ·rcases List.mem_cons.1 h with rfl |h
   ·exact List.mem_cons_self
   ·exact List.mem_cons_of_mem _ (A0 h)
theorem wI (L:bV T E) (H:Mem X ρ F o c h) {t:TypeId} {m k v:TV} {mv kv vv:Value} (hw:oY T t m k v o c K) (hm:VR c ρ F h m mv) (hk:VR c ρ F h k kv) (hv:VR c ρ F h v vv) (hp:aB E af p=none) (hq:ba E af p=none) (dx:aP E af p=none)
 (he:bT E X.base af p h=u4 E X.base t mv kv vv h):dG E X ρ F o c af h p K:=by
 unfold oY at hw;split at hw
 ·rename_i kt elem hd;split at hw
  ·rename_i kd wH hH;have Tf:=hk.cM.1;subst Tf;split at hw
   ·rename_i n;have M5:∀{kn},kindOk kd kv kn=true→0<kn∧aR kv=kn:=fun {kn} ji=>by
     unfold kindOk at ji;simp only[Bool.and_eq_true,beq_iff,aF]at ji;exact⟨ji.1.1,ji.2⟩
    have run:∀{kn b clock:Nat} {ev gA:List MapEntry} {Qg:Nat},kindOk kd kv kn=true→mv= .map (some b)→X.base≤b→h.get b=some (.map ev clock)→
     (∃i,Instr.findNow kd kv ev 0=some i∧(match i with|some (i,_)=>gA=(ev.modify i fun e=>{e with key:=kv,val:=vv})∧Qg=clock|none=>gA=ev++[{key:=kv,val:=vv,born:=clock}]∧Qg=clock+1))→
     bT E X.base af p h=some (.val undef,h.put b (.map gA Qg)):=by
     rintro kn b clock ev gA Qg ji rfl aY hg ⟨i,hi,h2⟩;obtain⟨zJ,Fp⟩:=ie ji;rw[he];unfold u4 lf;rw[L.desc _ _ hd];simp only[Option.bind_some,L.desc _ _ hH];rw[ax.2 aY,zJ,Fp,hg];simp only[Bool.and_self,aW,hi,Option.bind_some];cases i with
     |none=>obtain⟨rfl,rfl⟩:=h2;rfl
     |some i=>obtain⟨rfl,rfl⟩:=h2;rfl
    -- entries that name objects
    have named:∀{S:Nat→Ft} {y:TO} {kn b clock:Nat} {ev:List MapEntry} {es M:List (Value×TV)} {Sq:Ft},MO X ρ F o c h S→look o n=some y→S n=(b,true)::Sq→ρ n=some (.cO b)→h.get b=some (.map ev clock)→ox ev clock→kindOk kd kv kn=true→okV v=true→mv= .map (some b)→
     (∀e∈es,∀t∈ay e.2,kI t=true)→gj c ρ F h X.base kn Sq M ev→c8 M kv v=c8 es kv v→K .j (dQ o n (.eC kn es [(kv,v)])) c (.ck [n])→dG E X ρ F o c af h p K:=by
     intro S y kn b clock ev es M Sq K0 hl hS hb hg bA ji DV RM bL hE Vc hw;have lM:=K0.zL n _ hl;rw[hS]at lM;obtain⟨n1,n2⟩:=List.nodup_cons.1 lM;have aY:X.base≤b:=(K0.dF n _ b hl (by rw[hS];exact List.mem_cons_self)).1;rcases hE.il ji (M5 ji) (b8.j9 (gU hv DV)) (Fu hv DV) clock 0 with⟨q1,q2⟩|⟨j,x,S',q1,q2,q3⟩
     ·rw[Vc]at q2;exact kU H (.refl H) K0 hl hS hg (fun _ h=>h) n2 hp hq dx (run ji RM aY hg ⟨_,q1,rfl,rfl⟩) (fun _ _ _ _=>.j _) (fun h' hm same cA HI k8=>.eC hb HI bL (q2.bf (T:=fun x=>x=b) H.wf same (fun _ h=>h) cA hm k8) bA.tC) hw
     ·rw[Vc]at q2;exact kU H (.refl H) K0 hl hS hg (fun _ h=>q3.subset h) ((q3.map Prod.fst).nodup n2) hp hq dx (run (gA:=ev.modify j fun e=>{e with key:=kv,val:=vv}) (Qg:=clock) ji RM aY hg ⟨_,q1,by simp,rfl⟩) (fun _ _ _ _=>.j _) (fun h' hm same cA HI k8=>.eC hb HI bL (q2.bf (T:=fun x=>x=b) H.wf same (fun _ h=>h) cA hm k8) (bA.modify j fun _=>rfl)) hw
    split at hw
    ·rename_i kn es v' hl Ez;split at hw
     ·rename_i ji;have DV:okV v=true:=by
       cases v<;>simp[Ha,cA]at Ez<;>rfl
      obtain⟨F1,Sh,sv⟩:=Ko H v DV;obtain⟨pn,fy⟩:=sv v' vv Ez hv;obtain⟨S,K0⟩:=H.ex;have hO:=K0.bR n _ hl;have JK:=fun x hx=>K0.dF n _ x hl hx;generalize S n=Sm at hO JK;cases hO with
      |map hb hg hlen hc bA=>
       rename_i b clock ev;have hE:rk c ρ F1 h kn es ev:=rk.mono ⟨hlen,hc⟩ Sh.bf;cases hm with
       |mp bE=>
        rw[hb]at bE;cases bE;obtain⟨y1,k1,k2⟩:=Sh.wk n _ hl;have:y1= .map kn es:=by cases y1<;>simp[gz]at k2;obtain⟨rfl,rfl⟩:=k2;rfl
        subst this;have aY:X.base≤b:=(JK b List.mem_cons_self).1;rcases u5 ji 0 hE with⟨q1,q2,q3⟩|⟨j,x,q0,q1,q2,q3⟩
        ·refine map_set H Sh k1 hb hg (hE.tC (M5 ji) fy pn clock) bA.tC hp hq dx (run ji rfl aY hg ⟨_,q1,rfl,rfl⟩) (fun _ _ _ _=>.j _) ?_;rw[q2]at hw;exact hw
        ·refine map_set H Sh k1 hb hg (hE.set (M5 ji) fy pn j) (bA.modify j fun _=>rfl) hp hq dx (run ji rfl aY hg ⟨_,q1,by simp,rfl⟩) (fun _ _ _ _=>.j _) ?_;rw[q2]at hw;exact hw
     ·exact hw.elim
    ·rename_i kn es hl Ez;split at hw
     ·rename_i LK;simp only[Bool.and_eq_true]at LK;obtain⟨ji,DV⟩:=LK;obtain⟨S,K0⟩:=H.ex;have hO:=K0.bR n _ hl;generalize hS:S n=Sm at hO;cases hO with
      |map hb hg hlen hc bA=>
       cases hm with
       |mp bE=>
        rw[hb]at bE;cases bE;have re:=CR.MV (base:=X.base) hlen hc;exact named K0 hl hS hb hg bA ji DV rfl (re.PU _ _ _ rfl) (gj.o6 re _ _ _ rfl) rfl hw
     ·exact hw.elim
    ·rename_i kn es hl;split at hw
     ·rename_i LK;simp only[Bool.and_eq_true]at LK;obtain⟨ji,DV⟩:=LK;obtain⟨S,K0⟩:=H.ex;have hO:=K0.bR n _ hl;generalize hS:S n=Sm at hO;cases hO with
      |eC hb hg bL hc bA=>
       cases hm with
       |mp bE=>
        rw[hb]at bE;cases bE;exact named K0 hl hS hb hg bA ji DV rfl bL hc rfl hw
     ·exact hw.elim
    ·rename_i kn es k' w hl;split at hw
     ·rename_i LK;simp only[Bool.and_eq_true]at LK;obtain⟨ji,DV⟩:=LK;obtain⟨rfl,hw⟩:=hw;obtain⟨S,K0⟩:=H.ex;have hO:=K0.bR n _ hl;generalize hS:S n=Sm at hO;cases hO with
      |eC hb hg bL hc bA=>
       cases hm with
       |mp bE=>
        rw[hb]at bE;cases bE;exact named K0 hl hS hb hg bA ji DV rfl bL hc (u6 ji) hw
     ·exact hw.elim
    ·exact hw.elim
   ·exact hw.elim
  ·exact hw.elim
 ·exact hw.elim
theorem CW (L:bV T E) (H:Mem X ρ F o c h) {t:TypeId} {m k:TV} {mv kv:Value} (hw:yM T t m k o c K) (hm:VR c ρ F h m mv) (hk:VR c ρ F h k kv) (hp:aB E af p=none) (hq:ba E af p=none) (dx:aP E af p=none)
 (he:bT E X.base af p h=(pr E X.base h t mv kv).bind fun r=>some (.val r.1,r.2)):dG E X ρ F o c af h p K:=by
 have Kq:∀(c:Nat) (ρ:Gh) (F:Nat→Prop) (h:ab),VR c ρ F h (.dH []) (.tuple #[]):=fun _ _ _ _=>.gi .nil;unfold yM at hw;split at hw
 ·rename_i kt elem hd;split at hw
  ·rename_i kd wH n hH;have Tf:=hk.cM.1;subst Tf;have run:∀{kn b clock:Nat} {ev gA:List MapEntry},kindOk kd kv kn=true→mv= .map (some b)→X.base≤b→h.get b=some (.map ev clock)→(∃i,Instr.findNow kd kv ev 0=some i∧gA=(match i with|some (i,_)=>ev.eraseIdx i|none=>ev))→bT E X.base af p h=some (.val (.tuple #[]),h.put b (.map gA clock)):=by
    rintro kn b clock ev gA ji rfl aY hg ⟨i,hi,rfl⟩;obtain⟨zJ,Fp⟩:=ie ji;rw[he];unfold pr;rw[L.desc _ _ hd];simp only[Option.bind_some,L.desc _ _ hH];rw[ax.2 aY,zJ,Fp,hg];simp only[Bool.and_self,aW,hi,Option.bind_some];cases i<;>rfl
   obtain⟨S,K0⟩:=H.ex;split at hw
   ·rename_i kn es hl;split at hw
    ·rename_i ji;have hO:=K0.bR n _ hl;have JK:=fun x hx=>K0.dF n _ x hl hx;generalize S n=Sm at hO JK;cases hO with
     |map hb hg hlen hc bA=>
      rename_i b clock ev;have hE:rk c ρ F h kn es ev:=⟨hlen,hc⟩;cases hm with
      |mp bE=>
       rw[hb]at bE;cases bE;have aY:X.base≤b:=(JK b List.mem_cons_self).1;rcases u5 ji 0 hE with⟨q1,q2,q3⟩|⟨j,x,q0,q1,q2,q3⟩
       ·refine map_set H (.refl H) hl hb hg hE bA hp hq dx (run (gA:=ev) ji rfl aY hg ⟨_,q1,rfl⟩) Kq ?_;rw[q3]at hw;exact hw
       ·refine map_set H (.refl H) hl hb hg (hE.erase j) (bA.erase j) hp hq dx (run (gA:=ev.eraseIdx j) ji rfl aY hg ⟨_,q1,by simp⟩) Kq ?_;rw[q3]at hw;exact hw
    ·exact hw.elim
   ·rename_i kn es hl;split at hw
    ·rename_i ji;have hO:=K0.bR n _ hl;have JK:=fun x hx=>K0.dF n _ x hl hx;have lM:=K0.zL n _ hl;generalize hS:S n=Sm at hO JK lM;cases hO with
     |eC hb hg bL hc bA=>
      rename_i Sq b clock ev;cases hm with
      |mp bE=>
       rw[hb]at bE;cases bE;have aY:X.base≤b:=(JK b List.mem_cons_self).1;obtain⟨n1,n2⟩:=List.nodup_cons.1 lM;have hE:gj c ρ F h X.base kn Sq es ev:=hc;rcases hE.del ji 0 with⟨q1,q2⟩|⟨j,x,S',q1,q2,q3⟩
       ·rw[q2]at hw;exact kU H (.refl H) K0 hl hS hg (fun _ h=>h) n2 hp hq dx (run (gA:=ev) ji rfl aY hg ⟨_,q1,rfl⟩) Kq (fun h' hm same cA HI k8=>.eC hb HI bL (hE.bf (T:=fun x=>x=b) H.wf same (fun _ h=>h) cA hm k8) bA) hw
       ·exact kU H (.refl H) K0 hl hS hg (fun _ h=>q3.subset h) ((q3.map Prod.fst).nodup n2) hp hq dx (run (gA:=ev.eraseIdx j) ji rfl aY hg ⟨_,q1,by simp⟩) Kq (fun h' hm same cA HI k8=>.eC hb HI (fun e he=>bL e (A0 he)) (q2.bf (T:=fun x=>x=b) H.wf same (fun _ h=>h) cA hm k8) (bA.erase j)) hw
    ·exact hw.elim
   ·exact hw.elim
  ·exact hw.elim
 ·exact hw.elim
theorem xr (H:Mem X ρ F o c h) {t:TypeId} {n kn:Nat} {y:TO} {mv:Value} (hl:look o n=some y) (hy:(∃es,y= .map kn es)∨∃es op,y= .eC kn es op) (hw:K (.dH []) (dQ o n (.map kn [])) c (.ck [n])) (hm:VR c ρ F h (.mp n) mv) (hp:aB E af p=none) (hq:ba E af p=none) (dx:aP E af p=none)
 (hd:(E.desc t).isSome=true) (he:bT E X.base af p h=((E.desc t).bind fun _=>mz E X.base h t mv).bind fun r=>some (.val r.1,r.2)):dG E X ρ F o c af h p K:=by
 obtain⟨S,K0⟩:=H.ex;have hO:=K0.bR n _ hl;have JK:=fun x hx=>K0.dF n _ x hl hx;obtain⟨d,hd⟩:=Option.isSome_iff_exists.1 hd;have main:∀{b clock:Nat} {ev:List MapEntry} {Sq:Ft},S n=(b,true)::Sq→ρ n=some (.cO b)→h.get b=some (.map ev clock)→dG E X ρ F o c af h p K:=by
  intro b clock ev Sq hS hb hg;cases hm with
  |mp bE=>
   rw[hb]at bE;cases bE;have aY:X.base≤b:=(JK b (by rw[hS];exact List.mem_cons_self)).1;refine kU H (.refl H) K0 (S':=[]) (gA:=[]) (clock':=clock) hl hS hg (by simp) (by simp[cu]) hp hq dx ?_ (fun _ _ _ _=>.gi .nil) (fun h' hm same cA HI k8=>.map hb HI rfl (fun i e e' q=>by simp at q) ⟨by simp,by simp⟩) hw;rw[he,hd];unfold mz;simp only[Option.bind_some];rw[ax.2 aY,hg];rfl
 generalize hS:S n=Sm at hO;rcases hy with⟨es,rfl⟩|⟨es,op,rfl⟩
 ·cases hO with
  |map hb hg hlen hc bA=>exact main hS hb hg
 ·cases hO with
  |eC hb hg bL hc bA=>exact main hS hb hg
theorem ER.take {z:Nat} {es:List (List TV)} {cs:List Value} (A:ER c ρ F h z es cs) {i:Nat} (hi:i≤es.length):ER c ρ F h z (es.take i) (cs.take (i*z)):=by
 have hle:i*z≤es.length*z:=Nat.mul_le_mul_right z hi;refine⟨by rw[List.length_take,List.length_take,A.len,Nat.min_eq_left hi,Nat.min_eq_left hle],fun e he=>A.each e (List.mem_of_mem_take he),fun e he=>A.fz e (List.mem_of_mem_take he),fun a b e t v q1 q2 q3=>?_⟩;rw[List.getElem?_take]at q1 q3;split at q1
 ·split at q3
  ·exact A.cell a b e t v q1 q2 q3
  ·cases q3
 ·cases q1
theorem CX (L:bV T E) (H:Mem X ρ F o c h) {t elem:TypeId} {m i z:Nat} {zv xv:Value} {zs:List TV} {es:List (List TV)} (hd:T.desc t=some (.slice elem)) (hz:T.zero elem=some zv) (hl:look o m=some (.arr z true es)) (hY:ku zv=some zs)
 (hc:(zs.all fz&&Nat.beq zs.length z&&zs.all we)=true) (hw:(es.length≤i→K (.dH []) o c (.ck [m]))∧(i<es.length→K (.dH []) (dQ o m (.arr z true (es.take i++List.replicate (es.length - i) zs))) c (.ck [m])))
 (hx:VR c ρ F h (.sv m i) xv) (hp:aB E af p=none) (hq:ba E af p=none) (dx:aP E af p=none)
 (he:bT E X.base af p h=((E.desc t).bind fun _=>mz E X.base h t xv).bind fun r=>some (.val r.1,r.2)):dG E X ρ F o c af h p K:=by
 simp only[Bool.and_eq_true,beq_iff]at hc;obtain⟨⟨fy,E9⟩,BZ⟩:=hc;obtain⟨iJ,gJ⟩:=L.zero _ _ hz;have oO:cX c ρ F h zs zv.cells.toList:=eQ gJ hY;have Tg:∀a cap,xv= .slice a 0 cap→(a=none∨∃b q z1,a=some ⟨b,q,some z1⟩)→es.length≤i→dG E X ρ F o c af h p K:=by
  rintro a cap rfl ha hle;refine dG.ck H (v:=.dH []) (x:=.tuple #[]) hp hq dx ?_ (.refl H) (.gi .nil) (Raw.refl [m]) (hw.1 hle);rw[he,L.desc _ _ hd];rcases ha with rfl |⟨b,q,z1,rfl⟩<;>rfl
 obtain⟨S,K0⟩:=H.ex;have hO:=K0.bR m _ hl;generalize hS:S m=Sm at hO;cases hx with
 |sv hn h1 ha h0=>
  cases hO with
  |nil hb zP=>
   rcases h0 _ hb with rfl |⟨b,o',z',cap,rfl⟩
   ·exact Tg _ _ rfl (.inl rfl) (Nat.zero_le _)
   ·exact Tg _ _ rfl (.inr ⟨_,_,_,rfl⟩) (Nat.zero_le _)
  |arr hb hg hf wi dc zP bY sX wC jW hF=>
   rename_i b f t0 ee aE cs;obtain⟨q,cap,rfl,Wp⟩:=ha _ _ _ hb;by_cases hi:i<es.length
   ·obtain rfl:=Wp hi;have hE:ER c ρ F h z es cs:=⟨bY,sX,wC,jW⟩;have fj:=cJ hf wi (au hg);have hR:=ER.replicate oO E9 fy (es.length - i);have Th:=hR.len;rw[List.length_replicate]at Th;have Ya:i*z+(es.length - i)*z=es.length*z:=by rw[←Nat.add_mul];congr 1;omega
    obtain⟨qJ,ze⟩:=ke (n:=i*z) (l:=cs) (xs:=aI zv.cells.toList (es.length - i)) (by rw[bY,Th];omega);have Ti:qJ=cs.take (i*z)++aI zv.cells.toList (es.length - i):=by
     rw[jh ze,List.drop_drop,List.drop_eq_nil_of_le (by rw[bY,Th];omega),List.append_nil]
    have Qc:ER c ρ F h z (es.take i++List.replicate (es.length - i) zs) qJ:=by rw[Ti];exact(hE.take (Nat.le_of_lt hi)).append hR
    have wg:(f,true)∈S m:=by rw[hS];exact List.mem_cons_self
    have oz:=K0.dF m _ f hl (df wg);have HH:X.base≤b:=by have:=H.wf.le _ _ _ _ _ hg;omega
    have W:=yX (cs':=qJ) H.wf hg hf;obtain⟨t',Ry,jy⟩:=W.self;have Dx:(es.take i++List.replicate (es.length - i) zs).length=es.length:=by simp;omega
    obtain⟨M,hk⟩:=H.set K0 (y':=.arr z true (es.take i++List.replicate (es.length - i) zs)) (S0:=[(f,true)]) hl wg (fun p hp=>by simp only[List.mem_singleton]at hp;subst hp;exact wg) (by simp[cu]) W.size W.wf W.same W.cu fun hm _=>
     OR.Hk (by rw[Dx];exact hb) jy W.cW (Nat.le_refl _) dc zP (Qc.mono hm) (fun h=>by cases h)
    refine dG.ck H (v:=.dH []) (x:=.tuple #[]) hp hq dx ?_ (AY H (.refl H) M hk (fun _ h=>h) (by rw[W.size];exact Nat.le_refl _) fun b' cs' bE jA=>ib H.wf W.same (K0.apart m _ _ b' hl wg bE) jA) (.gi .nil)
     (qe H (.refl H) K0 hl (df wg) W.same) (hw.2 hi)
    rw[he,L.desc _ _ hd];unfold mz;simp only[Option.bind_some];have nC:Nat.beq (es.length - i) 0=false:=by
     cases Ta:Nat.beq (es.length - i) 0 with
     |false=>rfl
     |true=>have:=beq_iff.1 Ta;omega
    rw[nC];simp only[cond_false,L.desc _ _ hd,Option.bind_some,iJ,tB BZ oO,aW,fj,ze,DL hg hf HH dc]
   ·exact Tg _ _ (by rw[show es.length - i=0 by omega]) (.inr ⟨_,_,_,rfl⟩) om
end
section
variable {T E:Env} {X:Cx} {ρ:Gh} {F:Nat→Prop} {o:Ob} {c:Nat} {af:AF} {f:Fr} {h:ab} {p:Oper} {K:OK}
theorem size_le {k bytes:Nat} (hk:k<1048576) (hb:bytes<1048576):(k+1)*(bytes+1)≤1099511627776:=by
 have h1:(k+1)*(bytes+1)≤1048576*1048576:=Nat.mul_le_mul hk hb;exact h1
theorem Mem.Kr (H:Mem X ρ F o c h) {z:Nat} {y:TO} (uI:∀(c:Nat) (ρ:Gh) (F:Nat→Prop) (n:Nat),ρ n=some (.nil z)→OR c ρ F h X.base n [] y):Mem X (bP ρ c (some (.nil z))) F ((c,y)::o) (c+1) h∧∀t v,VR c ρ F h t v→VR (c+1) (bP ρ c (some (.nil z))) F h t v:=by
 obtain⟨S,K⟩:=H.ex
 refine H.change K (fun _=>False) c y [] (Nat.le_refl _) H.wf (fun _ hf=>hf.elim) (fun _ _ _=>rfl) (fun _ _ _ hr=>hr) (fun _ _=>rfl) (fun _ hb=>hb) (fun _ hb hn=>absurd hb hn) om (H.AA _) (H.AB _) (H.AD _)
  (fun m y' aX hl=>?_) (fun y' hl=>?_) (uI _ _ _ _ (aC _ _ _)) (by simp[cu]) (by simp[cu]) (by simp)
 ·rw[aD,if_neg (fun e=>aX e.symm)]at hl;exact⟨hl,aK _ _ aX,fun _ _ hf=>hf.elim⟩
 ·rw[aD,if_pos rfl,Option.some.injEq]at hl;exact hl.symm
theorem Mem.LL (H:Mem X ρ F o c h) {S:Nat→Ft} (K:MO X ρ F o c h S) {m z l b0:Nat} {y y':TO} {S0:Ft} {h':ab} (hl:look o m=some y) (hb:ρ m=some (.arr b0 z l)) (cI:h.size≤h'.size) (zU:Wf h') (same:∀b,b<h.size→h'.get b=h.get b)
 (cA:∀b cs,F b→h.rd b=some cs→h'.rd b=some cs) (p8:∀p∈S0,p∈S m∨p.1=h.size) (DI:(cu S0).Nodup) (bO:∀x∈cu S0,x<h'.size) (fl:Bool) (zD:fl=true→(h'.rd h.size).isSome=true∧hd h' h.size=h.size∧∀x,(x,true)∈S0→h.size≠x) {q:Loc} (_:∀b,q≠ .cO b)
 (uI:(∀t v,VR c ρ F h t v→VR (c+1) (bP (bP ρ m none) c (some q)) (fun x=>F x∨(fl=true∧x=h.size)) h' t v)→OR (c+1) (bP (bP ρ m none) c (some q)) (fun x=>F x∨(fl=true∧x=h.size)) h' X.base c S0 y'):
 Mem X (bP (bP ρ m none) c (some q)) (fun x=>F x∨(fl=true∧x=h.size)) ((c,y')::eu o m) (c+1) h'∧∀t v,VR c ρ F h t v→VR (c+1) (bP (bP ρ m none) c (some q)) (fun x=>F x∨(fl=true∧x=h.size)) h' t v:=by
 have hm:=H.lt hl;have dR:∀n,n≠m→n≠c→bP (bP ρ m none) c (some q) n=ρ n:=fun n h1 h2=>by rw[aK _ _ h2,aK _ _ h1]
 have hA:∀n l',n<c→bP (bP ρ m none) c (some q) n=some l'→ρ n=some l':=fun n l' hn h1=>by
  by_cases e:n=m
  ·subst e;rw[aK _ _ om,aC]at h1;cases h1
  ·rwa [dR n e om]at h1
 have hB:∀n b',ρ n=some (.cO b')→bP (bP ρ m none) c (some q) n=some (.cO b'):=fun n b' hn=>by
  have:=H.names _ _ hn;by_cases e:n=m
  ·subst e;rw[hb]at hn;cases hn
  ·rwa [dR n e om]
 have AE:∀t v,VR c ρ F h t v→VR (c+1) (bP (bP ρ m none) c (some q)) (fun x=>F x∨(fl=true∧x=h.size)) h' t v:=fun t v=>VR.mono om hA hB (fun _ hb=>.inl hb) cA;have sk:∀n y1,n≠c→look ((c,y')::eu o m) n=some y1→n≠m∧look o n=some y1:=fun n y aX hy=>by
  rw[aD,if_neg (fun e=>aX e.symm),cS]at hy;by_cases e:n=m
  ·rw[if_pos e]at hy;cases hy
  ·rw[if_neg e]at hy;exact⟨e,hy⟩
 have wU:∀x∈cu S0,x∈cu (S m)∨x=h.size:=fun x hx=>by
  obtain⟨p,hp,rfl⟩:=List.mem_map.1 hx;rcases p8 p hp with h1|e
  ·exact .inl (List.mem_map.2 ⟨p,h1,rfl⟩)
  ·exact .inr e
 refine H.change K (fun _=>False) c y' S0 cI zU (fun _ hf=>hf.elim) (fun b hb _=>same b hb) cA (fun b hb=>by unfold hd;rw[same b hb]) (fun _ hb=>.inl hb) (fun b hb hn=>?_) om hA hB (fun n l' hn=>?_)
  (fun n y' aX hy=>?_) (fun y' hy=>?_) (uI AE) DI (fun x hx=>?_) fun x b hx hb=>?_
 ·rcases hb with hb|⟨hf,rfl⟩
  ·exact absurd hb hn
  ·obtain⟨g1,g2,g3⟩:=zD hf;refine⟨g1,fun n y1 x aX hy hx e=>?_,fun x hx=>by rw[g2];exact g3 x hx,.inr (by rw[g2];exact H.l9.size)⟩;rw[g2]at e;subst e;have:=(K.dF n y1 _ (sk n y1 aX hy).2 (df hx)).2.1;omega
 ·by_cases e:n=c
  ·omega
  ·by_cases e2:n=m
   ·omega
   ·rw[dR n e2 e]at hn;have:=H.names _ _ hn;omega
 ·obtain⟨h1,h2⟩:=sk n y' aX hy;exact⟨h2,dR n h1 aX,fun _ _ hf=>hf.elim⟩
 ·rw[aD,if_pos rfl,Option.some.injEq]at hy;exact hy.symm
 ·rcases wU x hx with h1|rfl
  ·obtain⟨q1,q2,q3⟩:=K.dF m y x hl h1;refine⟨q1,bO x hx,q3,fun n y1 aX hy hh=>?_⟩;obtain⟨h3,h4⟩:=sk n y1 aX hy;exact h3 (K.ey n m y1 _ _ h4 hl hh h1)
  ·refine⟨H.jx,bO _ hx,.inr H.l9.size,fun n y1 aX hy hh=>?_⟩;obtain⟨h3,h4⟩:=sk n y1 aX hy;have:=(K.dF n y1 _ h4 hh).2.1;omega
 ·rcases p8 _ hx with h1|e
  ·exact K.apart m y x b hl h1 hb
  ·simp only at e;subst e;have:=H.wf.DG b;have:=H.CE hb;omega
theorem OR.named {base m n c':Nat} {ρ':Gh} {S:Ft} {y:TO} (W:Wf h) (H:OR c ρ F h base m S y) (hm:∀t v,VR c ρ F h t v→VR c' ρ' F h t v) (dR:ρ' n=ρ m):OR c' ρ' F h base n S y:=by
 have kk:∀{S:Ft} {l:List TV} {vs:List Value},b8 c ρ F h base S l vs→b8 c' ρ' F h base S l vs:=fun hc=>hc.bf (T:=fun _=>False) W (fun _ _ _=>rfl) (fun _ h=>h) (fun _ _ _ h=>h) hm (fun _ _ hf=>hf.elim);cases H with
 |cells hb hg ht hc=>exact .cells (dR.trans hb) hg ht (kk hc)
 |map hb hg hl hc bA=>exact .map (dR.trans hb) hg hl (fun i e e' h1 h2=>let⟨q1,q2,q3,q4⟩:=hc i e e' h1 h2;⟨q1,q2,q3,hm _ _ q4⟩) bA
 |nil hb hz=>exact .nil (dR.trans hb) hz
 |arr hb hg hf ht dc hz hl he fy hc hF=>exact .arr (dR.trans hb) hg hf ht dc hz hl he fy (fun i j e t v q1 q2 q3=>hm _ _ (hc i j e t v q1 q2 q3)) hF
 |fi hb hz=>exact .fi (dR.trans hb) hz
 |cm hb hg hf ht dc hz hl he bL e7 hc=>exact .cm (dR.trans hb) hg hf ht dc hz hl he bL e7 (kk hc)
 |eC hb hg bL hc bA=>exact .eC (dR.trans hb) hg bL (hc.bf (T:=fun _=>False) W (fun _ _ _=>rfl) (fun _ h=>h) (fun _ _ _ h=>h) hm (fun _ _ hf=>hf.elim)) bA
 |gK hb hg=>exact .gK (dR.trans hb) hg
theorem Mem.rename (H:Mem X ρ F o c h) {m z:Nat} {y:TO} (hl:look o m=some y) {b l:Nat} (hb:ρ m=some (.arr b z l)):
 Mem X (bP (bP ρ m none) c (some (.arr b z l))) F ((c,y)::eu o m) (c+1) h∧∀t v,VR c ρ F h t v→VR (c+1) (bP (bP ρ m none) c (some (.arr b z l))) F h t v:=by
 obtain⟨S,K⟩:=H.ex;have e:(fun x=>F x∨(false=true∧x=h.size))=F:=by funext x;simp
 have:=H.LL K (S0:=S m) (y':=y) (q:=.arr b z l) hl hb (Nat.le_refl _) H.wf (fun _ _=>rfl) (fun _ _ _ h=>h) (fun p hp=>.inl hp) (K.zL m y hl) (fun x hx=>(K.dF m y x hl hx).2.1) false (fun h=>by cases h) (by simp) fun hm=>by
  rw[e]at hm ⊢;exact(K.bR m y hl).named H.wf hm ((aC _ _ _).trans hb.symm)
 rwa [e]at this
theorem mY (H:Mem X ρ F o c h) {x:TV} {zx n:Nat} {xs:List (List TV)} {op:List (Nat×List TV)} (he:PO o x=some (zx,xs,op)) (hz:zx=n∨zx=0∧op=[]) (e7:∀p∈op,p.2.all dr=true) {xv:Value} (hx:VR c ρ F h x xv):
 kJ xv=some xs.length∧(∀p∈op,p.1<xs.length∧p.2.length=n)∧(∀e∈xs,∀t∈e,fz t=true)∧(xs=[]∨∃new,dC h n xs.length xv=some new∧(op=[]→ER c ρ F h n xs new)∧new.length=xs.length*n∧(∀e∈xs,e.length=n)∧cX c ρ F h (bZ xs op).flatten new):=by
 have done:∀{xs:List (List TV)} {new:List Value},ER c ρ F h n xs new→dC h n xs.length xv=some new→kJ xv=some xs.length→kJ xv=some xs.length∧(∀p∈([]:List (Nat×List TV)),p.1<xs.length∧p.2.length=n)∧(∀e∈xs,∀t∈e,fz t=true)∧(xs=[]∨∃new,dC h n xs.length xv=some new∧(([]:List (Nat×List TV))=[]→ER c ρ F h n xs new)∧new.length=xs.length*n∧(∀e∈xs,e.length=n)∧cX c ρ F h (bZ xs []).flatten new):=
  fun E h1 h2=>⟨h2,by simp,E.fz,.inr ⟨_,h1,fun _=>E,E.len,E.each,fJ E.len E.each E.cell⟩⟩
 unfold PO at he;split at he
 ·rename_i m;split at he
  ·rename_i z w es hl;cases he;obtain⟨Sm,hO⟩:=H.bR hl;cases hx with
   |tk hn nJ ha h0=>
    cases hO with
    |nil hb iJ=>
     rcases h0 _ hb with rfl |⟨b,o',cs,q1,q2,q3,q4,rfl⟩
     ·exact⟨rfl,by simp,by simp,.inl rfl⟩
     ·exact⟨rfl,by simp,by simp,.inl rfl⟩
    |arr hb hg hf ht dc iJ hlen he fy hc hF=>
     rename_i b f t0 ee aE cs;obtain⟨cap,h1,rfl⟩:=ha _ _ _ hb;have Kj:zx=n:=by omega
     subst Kj;refine done ⟨hlen,he,fy,hc⟩ ?_ rfl;simp only[dC,M.ah,cJ hf ht (au hg),Option.bind_some,List.drop_zero,aO];rw[←hlen];simp
  ·rename_i z es EZ hl;split at he
   ·rename_i iP;cases he;obtain⟨Sm,hO⟩:=H.bR hl;have fy:∀e∈xs,∀t∈e,fz t=true:=fun e he t ht=>List.all_eq_true.1 (List.all_eq_true.1 iP e he) t ht;cases hx with
    |tk hn nJ ha h0=>
     cases hO with
     |fi hb iJ=>
      rcases h0 _ hb with rfl |⟨b,o',cs,q1,q2,q3,q4,rfl⟩
      ·exact⟨rfl,by simp,by simp,.inl rfl⟩
      ·exact⟨rfl,by simp,by simp,.inl rfl⟩
     |cm hb hg hf ht dc iJ hlen he bL Tj hc=>
      rename_i b f t0 ee aE cs;obtain⟨cap,h1,rfl⟩:=ha _ _ _ hb;have Kj:zx=n:=by omega
      subst Kj;have gJ:(bZ xs op).flatten.all dr=true:=by
       rw[List.all_eq_true];intro t ht;obtain⟨e,h1,h2⟩:=List.mem_flatten.1 ht;have key:∀(op:List (Nat×List TV)),(∀p∈op,p.2.all dr=true)→e∈bZ xs op→dr t=true:=by
        intro op
        induction op with
        |nil=>intro _ h1;have:=fy e h1 t h2;cases t<;>first|rfl |simp[fz]at this
        |cons p l ih=>
         intro e7 h1;rcases List.mem_or_eq_of_mem_set h1 with h3|rfl
         ·exact ih (fun q hq=>e7 q (List.mem_cons_of_mem _ hq)) h3
         ·exact List.all_eq_true.1 (e7 p List.mem_cons_self) t h2
       exact key op e7 h1
      obtain⟨hV,_⟩:=hc.OU (fun t v hv hf=>hv.c6 hf) gJ;refine⟨rfl,Tj,fy,.inr ⟨cs,?_,fun e=>?_,hlen,he,hV⟩⟩
      ·simp only[dC,M.ah,cJ hf ht (au hg),Option.bind_some,List.drop_zero,aO];rw[←hlen];simp
      ·subst e;refine⟨hlen,he,fy,fun i j e t v q1 q2 q3=>?_⟩;obtain⟨f1,f2⟩:=dI he q1;refine hV.2 (i*zx+j) t v ?_ q3;show xs.flatten[i*zx+j]? =some t;have hj:j<zx:=by rw[←he e (List.mem_of_getElem? q1)];exact(List.getElem?_eq_some_iff.1 q2).1
       rw[←f1,List.getElem?_take,if_pos hj,List.getElem?_drop]at q2;exact q2
   ·cases he
  ·cases he
 ·cases he;cases hx with
  |nil h1=>subst h1;exact⟨rfl,by simp,by simp,.inl rfl⟩
  |sl q1 q2 q3 q4 q5 q6 q7 q8 q9 LH=>
   rename_i b oo len cap cs;have Kj:zx=n:=by omega
   subst Kj;refine done (new:=(cs.drop oo).take (xs.length*zx)) ⟨by simp;rw[←q4]at q7;omega,q8,q9,fun i j e t v r1 r2 r3=>?_⟩ ?_ (by simp[kJ,q4])
   ·rw[List.getElem?_take]at r3;split at r3
    ·rw[List.getElem?_drop]at r3;exact LH i j e t v r1 r2 (by rw[←r3];congr 1;omega)
    ·cases r3
   ·simp only[dC,M.ah,q2,Option.bind_some,aO,and_true,List.length_drop];rw[←q4]at q7;omega
 ·cases he
theorem ER.dW {z:Nat} {es:List (List TV)} {cs:List Value} (A:ER c ρ F h z es cs) (hz:0<z):cs.all M.dW=true:=by
 rw[List.all_eq_true];intro v hv;obtain⟨k,hk⟩:=List.getElem?_of_mem hv;have Vd:k<cs.length:=(List.getElem?_eq_some_iff.1 hk).1;rw[A.len]at Vd;have hi:k / z<es.length:=by
  rw[Nat.div_lt_iff_lt_mul hz];exact Vd
 obtain⟨e,he⟩:∃e,es[k / z]? =some e:=⟨_,List.getElem?_eq_getElem hi⟩;have AH:=A.each e (List.mem_of_getElem? he);have hj:k % z<e.length:=by rw[AH];exact Nat.mod_lt _ hz
 obtain⟨t,ht⟩:∃t,e[k % z]? =some t:=⟨_,List.getElem?_eq_getElem hj⟩;have G6:k / z*z+k % z=k:=by rw[Nat.mul_comm];exact Nat.div_add_mod k z
 have Tk:=A.cell (k / z) (k % z) e t v he ht (by rw[G6];exact hk);have fy:=A.fz e (List.mem_of_getElem? he) t (List.mem_of_getElem? ht);have Wq:we t=true:=by
  cases t<;>simp[M.fz]at fy<;>rfl
 exact DU Wq Tk
structure zg (E:Env) (st xt elem n bytes:Nat):Prop where
 sd:E.desc st=some (.slice elem)
 xd:∃e,E.desc xt=some (.slice e)
 size:E.size elem=some n
 bytes:E.bytes elem=some bytes
 zero:∃z,E.zero elem=some z∧z.cells.size=n
theorem u7 {base st xt elem n bytes:Nat} (A:zg E st xt elem n bytes) {s x:Value} (hs:E3 s=true) (RB:∀l k,s= .slice none l k→l=0∧k=0) (zJ:∀b oo sp l k,s= .slice (some ⟨b,oo,sp⟩) l k→sp.isSome) (hx:kJ x=some 0):bq E base h st xt s x=some (s,h):=by
 obtain⟨e,Gv⟩:=A.xd;obtain⟨z,M6,Kk⟩:=A.zero;unfold bq;rw[A.sd,Gv];simp only[Option.bind_some,A.size,A.bytes,M6,hx];simp only[ju,Kk,aW];cases s<;>simp[E3]at hs;rename_i a l k;cases a with
 |none=>obtain⟨rfl,rfl⟩:=RB l k rfl;simp
 |some a=>
  obtain⟨b,oo,sp⟩:=a;have:=zJ b oo sp l k rfl;cases sp with
  |none=>simp at this
  |some q=>simp
theorem Ks {base st xt elem n bytes len:Nat} (A:zg E st xt elem n bytes) {x:Value} {new:List Value} (hx:kJ x=some len) (hl:len≠0) (hb:(len+1)*(bytes+1)≤1099511627776) (hf:dC h n len x=some new) (hn:new.length=len*n):
 bq E base h st xt (.slice none 0 0) x=some (fresh h new n len):=by
 obtain⟨e,Gv⟩:=A.xd;obtain⟨z,M6,Kk⟩:=A.zero;unfold bq;rw[A.sd,Gv];simp only[Option.bind_some,A.size,A.bytes,M6,hx];simp only[ju,Kk,aW];simp[Ay,hl,ax.2 hb,hf,hn]
theorem A3 {base st xt elem n bytes len b oo sl:Nat} (A:zg E st xt elem n bytes) {x:Value} {old new:List Value} (hx:kJ x=some len) (hl:len≠0) (hb:(sl+len+1)*(bytes+1)≤1099511627776) (hf:dC h n len x=some new) (hn:new.length=len*n)
 (ho:M.ah h b oo (sl*n)=some old):bq E base h st xt (.slice (some ⟨b,oo,some n⟩) sl sl) x=some (fresh h (old++new) n (sl+len)):=by
 obtain⟨e,Gv⟩:=A.xd;obtain⟨z,M6,Kk⟩:=A.zero;unfold bq;rw[A.sd,Gv];simp only[Option.bind_some,A.size,A.bytes,M6,hx];simp only[ju,Kk,aW];simp[Ay,hl,ax.2 hb,hf,hn,ho]
theorem Kt {base st xt elem n bytes len b sl cap f aE:Nat} (A:zg E st xt elem n bytes) {x:Value} {old new cs:List Value} (hx:kJ x=some len) (hl:len≠0) (hb:(sl+len+1)*(bytes+1)≤1099511627776) (hf:dC h n len x=some new) (hn:new.length=len*n)
 (ho:M.ah h b 0 (sl*n)=some old) (fk:cap≠sl) (hc:h.cellsOf b=some cs) (oJ:h.cW b=some (f,b,aE)) (dc:base≤f) (jE:new.all dW=true):
 bq E base h st xt (.slice (some ⟨b,0,some n⟩) sl cap) x=some (.slice (some ⟨h.size,0,some n⟩) (sl+len) (sl+len+1),dg h f (bif Nat.beq (sl*n) cs.length then aE else h.size) (old++new)):=by
 obtain⟨e,Gv⟩:=A.xd;obtain⟨z,M6,Kk⟩:=A.zero;unfold bq;rw[A.sd,Gv];simp only[Option.bind_some,A.size,A.bytes,M6,hx];simp only[ju,Kk,aW];have h1:new.all dW=true:=jE;simp[Ay,hl,ax.2 hb,hf,hn,ho,fk,hc,oJ,ax.2 dc,h1];rfl
theorem Mem.flag {n:Nat} {xs:List (List TV)} {o1:Ob} (H:Mem X ρ F ((c,.arr n true xs)::o1) (c+1) h) (w:Bool):∃F',Mem X ρ F' ((c,.arr n w xs)::o1) (c+1) h∧(∀t v,VR (c+1) ρ F h t v→VR (c+1) ρ F' h t v)∧∀b,F b→F' b:=by
 cases w with
 |true=>exact⟨F,H,fun _ _ h=>h,fun _ h=>h⟩
 |false=>
  obtain⟨F',h1,h2,h3,_⟩:=H.share c;refine⟨F',h1.less fun m y hl=>?_,h2,h3⟩;have:gQ ((c,TO.arr n true xs)::o1) c=dQ ((c,TO.arr n true xs)::o1) c (.arr n false xs):=by
   unfold gQ;rw[aD,if_pos rfl]
  rw[this,dk];rw[aD]at hl;by_cases e:m=c
  ·subst e;rw[if_pos rfl,aD,if_pos rfl];rw[if_pos rfl]at hl;simpa using hl
  ·rw[if_neg e,aD,if_neg (fun e2=>e e2.symm)]
   rwa [if_neg (fun e2=>e e2.symm)]at hl
theorem qf (H:Mem X ρ F o c h) {m:Nat} {y:TO} {l:Option Loc}:∀n yn,look o n=some yn→n∉[m]→(∃y',look ((c,y)::eu o m) n=some y')∧bP (bP ρ m none) c l n=ρ n:=by
 intro n yn hn aX;have lL:n≠m:=by simpa using aX
 have:=H.lt hn;exact⟨⟨yn,by rw[aD,if_neg om,cS,if_neg lL];exact hn⟩,by rw[aK _ _ om,aK _ _ lL]⟩
theorem CY {xs:List (List TV)}:∀{op:List (Nat×List TV)} {es:List (List TV)},(∀p∈op,p.1<es.length)→bZ (es++xs) op=bZ es op++xs∧(bZ es op).length=es.length
 |[],_,_=>⟨rfl,rfl⟩
 |p::l,es,h=>by
  obtain⟨a,b⟩:=CY (xs:=xs) (op:=l) (es:=es) fun q hq=>h q (List.mem_cons_of_mem _ hq);have:=h p List.mem_cons_self;exact⟨by rw[bZ,bZ,a,List.set_append_left _ _ om],by rw[bZ,List.length_set,b]⟩
theorem Ku {es xs:List (List TV)} {q:Nat×List TV} {op:List (Nat×List TV)} (h:∀p∈op,p.1<es.length):bZ (es++xs) ((es.length+q.1,q.2)::op)=bZ es op++bZ xs [q]:=by
 obtain⟨a,b⟩:=CY (xs:=xs) h;rw[bZ,a,List.set_append_right _ _ om,b];simp[bZ]
theorem cX.Qh {l:List TV} {m:List Value} (H:cX c ρ F h l m) (ho:∀t∈l,we t=true):m.all M.dW=true:=tB (List.all_eq_true.2 ho) H
theorem jo (H:Mem X ρ F o c h) {st xt elem:TypeId} {n bytes:Nat} {xs:List (List TV)} {op:List (Nat×List TV)} {sv xv:Value} {F1:Nat→Prop} {o1:Ob} {fS:Gh} {y1 y2:TO} {ns:List Nat} (A:zg E st xt elem n bytes) (nC:0<n) (hlen:kJ xv=some xs.length)
 (jM:xs=[]∨∃new,dC h n xs.length xv=some new∧(op=[]→ER c ρ F h n xs new)∧new.length=xs.length*n∧(∀e∈xs,e.length=n)∧cX c ρ F h (bZ xs op).flatten new)
 (fin:∀v h',bq E X.base h st xt sv xv=some (v,h')→bT E X.base af p h=some (.val v,h')) (hp:aB E af p=none) (hq:ba E af p=none) (dx:aP E af p=none)
 (M1:Mem X fS F1 o1 c h) (k1:∀t v,VR c ρ F h t v→VR c fS F1 h t v) (f1:∀b,F b→F1 b) (w1:∀m y,look o m=some y→m∉ns→(∃y',look o1 m=some y')∧fS m=ρ m)
 (tD:sv= .slice none 0 0∨∃b oo cs,F b∧h.rd b=some cs∧oo≤cs.length∧sv= .slice (some ⟨b,oo,some n⟩) 0 0) (j5:(xs.length+1)*(bytes+1)≤1099511627776)
 (lG:xs=[]→∀(c:Nat) (ρ:Gh) (F:Nat→Prop) (m:Nat),ρ m=some (.nil n)→OR c ρ F h X.base m [] y1)
 (jS:∀new,(op=[]→ER c fS F1 h n xs new)→new.length=xs.length*n→(∀e∈xs,e.length=n)→cX c fS F1 h (bZ xs op).flatten new→Mem X (bP fS c (some (.arr h.size n xs.length))) F1 ((c,y1)::o1) (c+1) (h.push (.cells new h.size h.size 0))∧∀t v,VR c fS F1 h t v→VR (c+1) (bP fS c (some (.arr h.size n xs.length))) F1 (h.push (.cells new h.size h.size 0)) t v)
 (fl:∀{fS:Gh} {F1:Nat→Prop} {h1:ab},Mem X fS F1 ((c,y1)::o1) (c+1) h1→∃F',Mem X fS F' ((c,y2)::o1) (c+1) h1∧(∀t v,VR (c+1) fS F1 h1 t v→VR (c+1) fS F' h1 t v)∧∀b,F1 b→F' b)
 (hK:K (.tk c) ((c,y2)::o1) (c+1) (.ck ns)):dG E X ρ F o c af h p K:=by
 have Fv:∀m y,look o m=some y→m≠c:=fun m y hl=>by have:=H.lt hl;omega
 by_cases pI:xs.length=0
 ·have LM:xs=[]:=List.length_eq_zero_iff.1 pI;obtain⟨M2,k2⟩:=M1.Kr (y:=y1) (z:=n) (lG LM);obtain⟨F3,M3,k3,f3⟩:=fl M2;have uw:bq E X.base h st xt sv xv=some (sv,h):=by
   refine u7 A ?_ ?_ ?_ (by rw[hlen,pI])
   ·rcases tD with rfl |⟨b,oo,cs,_,_,_,rfl⟩<;>rfl
   ·rintro l k e;rcases tD with rfl |⟨b,oo,cs,_,_,_,rfl⟩<;>cases e;exact⟨rfl,rfl⟩
   ·rintro b oo sp l k e;rcases tD with rfl |⟨b,oo,cs,_,_,_,rfl⟩<;>cases e;rfl
  refine dG.ck H hp hq dx (fin _ _ uw) ⟨M3,fun t x hx=>k3 t x (k2 t x (k1 t x hx)),Nat.le_refl _,fun b hb=>f3 b (f1 b hb),fun _ _ _ hr=>hr⟩ ?_ (fun m y hl hm=>⟨?_,?_,fun b _=>⟨rfl,fun _ hr=>hr⟩⟩) hK
  ·refine .tk om (by rcases tD with rfl |⟨b,oo,cs,_,_,_,rfl⟩<;>rfl) (fun b z len hx=>?_) (fun z hx=>?_)
   ·rw[aC]at hx;cases hx
   ·rw[aC]at hx;cases hx;rcases tD with rfl |⟨b,oo,cs,q1,q2,q3,rfl⟩
    ·exact .inl rfl
    ·exact .inr ⟨b,oo,cs,f3 _ (f1 _ q1),q2,nC,q3,rfl⟩
  ·rw[aD,if_neg (Fv m y hl).symm];exact(w1 m y hl hm).1
  ·rw[aK _ _ (Fv m y hl)];exact(w1 m y hl hm).2
 ·rcases jM with e|⟨new,M7,hE,v8,Gu,hV⟩
  ·subst e;simp at pI
  ·obtain⟨M2,k2⟩:=jS new (fun e=>(hE e).mono k1) v8 Gu (hV.sj k1);obtain⟨F3,M3,k3,f3⟩:=fl M2;have uw:bq E X.base h st xt sv xv=some (fresh h new n xs.length):=by
    rcases tD with rfl |⟨b,oo,cs,_,q2,q3,rfl⟩
    ·exact Ks A hlen pI j5 M7 v8
    ·have:=A3 (base:=X.base) (sl:=0) (old:=[]) (b:=b) (oo:=oo) A hlen pI (by simpa using j5) M7 v8 (by simp[M.ah,q2,takeN]);simpa using this
   refine dG.ck H hp hq dx (fin _ _ uw) ⟨M3,fun t x hx=>k3 t x (k2 t x (k1 t x hx)),by show h.size≤h.size+1;omega,fun b hb=>f3 b (f1 b hb),fun b cs hb hr=>(cL H.wf.le _ (H.CE hb)).trans hr⟩ ?_ (fun m y hl hm=>⟨?_,?_,fun b hb=>?_⟩) hK
   ·refine .tk om rfl (fun b z len hx=>?_) (fun z hx=>?_)
    ·rw[aC]at hx;cases hx;exact⟨_,om,rfl⟩
    ·rw[aC]at hx;cases hx
   ·rw[aD,if_neg (Fv m y hl).symm];exact(w1 m y hl hm).1
   ·rw[aK _ _ (Fv m y hl)];exact(w1 m y hl hm).2
   ·have:=H.uZ hl hb;exact⟨by rw[ab.ai,if_neg om],fun cs hr=>by rw[cL H.wf.le _ this];exact hr⟩
theorem DW (H:Mem X ρ F o c h) {st xt elem:TypeId} {z bytes:Nat} {xs:List (List TV)} {xv:Value} {S:Nat→Ft} (K0:MO X ρ F o c h S) {m b f t0 ee aE len cap l0:Nat} {w:Bool} {y y2:TO} {Sq:Ft} {cs new:List Value} (A:zg E st xt elem z bytes) (hlen:kJ xv=some xs.length) (pI:xs.length≠0)
 (fin:∀v h',bq E X.base h st xt (.slice (some ⟨b,0,some z⟩) len cap) xv=some (v,h')→bT E X.base af p h=some (.val v,h')) (hp:aB E af p=none) (hq:ba E af p=none) (dx:aP E af p=none)
 (hl:look o m=some y) (hS:S m=(f,w)::Sq) (hb:ρ m=some (.arr b z l0)) (hg:h.get b=some (.cells cs f t0 ee)) (hf:h.cW b=some (f,b,aE)) (ht:aE≤b) (dc:X.base≤f) (_:0<z) (Ev:len*z≤cs.length) (Wr:cs.length=len*z∨w=true) (fk:len≤cap)
 (j5:(len+xs.length+1)*(bytes+1)≤1099511627776) (M7:dC h z xs.length xv=some new) (v8:new.length=xs.length*z) (jE:new.all dW=true) (hw:w=true∨Sq=[])
 (uI:∀{c':Nat} {ρ':Gh} {F':Nat→Prop} {h':ab} {b' f' t1 tS qK:Nat} {T:Nat→Prop},(∀t v,VR c ρ F h t v→VR c' ρ' F' h' t v)→(∀b,F b→F' b)→(∀b cs,F b→h.rd b=some cs→h'.rd b=some cs)→(∀b,b<h.size→¬T (hd h b)→h'.get b=h.get b)→(∀x∈cu Sq,¬T x)→
  ρ' c=some (.arr b' z (len+xs.length))→h'.get b'=some (.cells (cs.take (len*z)++new) f' t1 tS)→h'.cW b'=some (f',b',qK)→qK≤b'→X.base≤f'→(w=false→F' b')→OR c' ρ' F' h' X.base c ((f',w)::Sq) y2)
 (hK:K (.tk c) ((c,y2)::eu o m) (c+1) (.ck [m])):dG E X ρ F o c af h p K:=by
 have fj:=cJ hf ht (au hg);have iI:M.ah h b 0 (len*z)=some (cs.take (len*z)):=by
  simp only[M.ah,fj,Option.bind_some,List.drop_zero,aO];simp[Ev]
 obtain⟨c0,bK⟩:=bz hf;simp only at bK;have wg:f∈cu (S m):=by rw[hS];exact List.mem_cons_self
 have lM:=K0.zL m _ hl;rw[hS]at lM;obtain⟨n1,n2⟩:=List.nodup_cons.1 lM;by_cases bL:cap=len
 ·subst bL;have uw:=A3 (base:=X.base) A hlen pI j5 M7 v8 iI;have M8:(h.push (.cells (cs.take (cap*z)++new) h.size h.size 0)).get h.size=some (.cells (cs.take (cap*z)++new) h.size h.size 0):=by rw[ab.ai,if_pos rfl]
  have cA:∀b cs',F b→h.rd b=some cs'→(h.push (.cells (cs.take (cap*z)++new) h.size h.size 0)).rd b=some cs':=fun b cs' hb hr=>(cL H.wf.le _ (H.CE hb)).trans hr;have HJ:∀b,b<h.size→(h.push (.cells (cs.take (cap*z)++new) h.size h.size 0)).get b=h.get b:=fun b hb=>by rw[ab.ai,if_neg om]
  have Tl:∀F3,(∀b,F b→F3 b)→Mem X (bP (bP ρ m none) c (some (.arr h.size z (cap+xs.length)))) F3 ((c,y2)::eu o m) (c+1) (h.push (.cells (cs.take (cap*z)++new) h.size h.size 0))→(∀t x,VR c ρ F h t x→VR (c+1) (bP (bP ρ m none) c (some (.arr h.size z (cap+xs.length)))) F3 (h.push (.cells (cs.take (cap*z)++new) h.size h.size 0)) t x)→dG E X ρ F o c af h p K:=by
   intro F3 f3 M3 k3;refine dG.ck H hp hq dx (fin _ _ uw) ⟨M3,k3,by show h.size≤h.size+1;omega,f3,cA⟩ ?_ (fun n y ud aX=>?_) hK
   ·refine .tk om rfl (fun b' z' len hx=>?_) (fun z hx=>?_)
    ·rw[aC]at hx;cases hx;exact⟨cap+xs.length+1,om,by simp⟩
    ·rw[aC]at hx;cases hx
   ·obtain⟨q1,q2⟩:=qf H (y:=y2) (l:=some (.arr h.size z (cap+xs.length))) n y ud aX;have bO:=fun b' bE=>H.uZ (b:=b') ud bE;exact⟨q1,q2,fun b' bE=>⟨HJ b' (bO b' bE),fun cs hr=>(cL H.wf.le _ (bO b' bE)).trans hr⟩⟩
  have Tm:Wf (h.push (.cells (cs.take (cap*z)++new) h.size h.size 0)):=H.wf.push fun cs f cp aE e=>by cases e;exact Nat.le_refl _
  obtain⟨M3,k3⟩:=H.LL K0 (S0:=(h.size,w)::Sq) (y':=y2) (q:=.arr h.size z (cap+xs.length)) (h':=h.push (.cells (cs.take (cap*z)++new) h.size h.size 0)) hl hb (by rw[ab.size_push];omega) Tm HJ cA (fun p hp=>by
   rcases List.mem_cons.1 hp with rfl |hp
   ·exact .inr rfl
   ·rw[hS];exact .inl (List.mem_cons_of_mem _ hp)) (List.nodup_cons.2 ⟨fun hx=>by
    have:=(K0.dF m _ h.size hl (by rw[hS];exact List.mem_cons_of_mem _ hx)).2.1;omega,n2⟩) (fun x hx=>by
    rw[ab.size_push];rcases List.mem_cons.1 hx with rfl |hx
    ·simp
    ·have:=(K0.dF m _ x hl (by rw[hS];exact List.mem_cons_of_mem _ hx)).2.1;omega) (!w) (fun M9=>by
    have zU:w=false:=by simpa using M9
    subst zU;have Ws:Sq=[]:=by rcases hw with h|h;cases h;exact h
    subst Ws;exact⟨by rw[cJ (bp M8 M8) (Nat.zero_le _) (au M8)];rfl,bG M8,by simp⟩) (by simp) fun hm=>
   uI (T:=fun _=>False) hm (fun _ h=>.inl h) cA (fun b hb _=>HJ b hb) (fun _ _ hf=>hf.elim) (aC _ _ _) M8 (bp M8 M8) (Nat.zero_le _) H.jx (fun h=>.inr ⟨by simp[h],rfl⟩)
  exact Tl _ (fun _ h=>.inl h) M3 k3
 ·have uw:=Kt (base:=X.base) (cap:=cap) A hlen pI j5 M7 v8 iI bL (au hg) hf dc jE;obtain⟨cC,z8⟩:∃t,t=(bif Nat.beq (len*z) cs.length then aE else h.size):=⟨_,rfl⟩;rw[←z8]at uw;have Lh:=H.wf.lt hg;have Qi:cC≤h.size:=by cases Gl:Nat.beq (len*z) cs.length<;>rw[Gl]at z8<;>simp only[cond_true,cond_false]at z8<;>omega
  have Qj:cC=aE∨w=true:=by
   rcases Wr with e|e
   ·left;rw[z8,e,show Nat.beq (len*z) (len*z)=true from beq_iff.2 rfl];rfl
   ·exact .inr e
  have HK:∀x,x<h.size→hd h x≠f→(dg h f cC (cs.take (len*z)++new)).get x=h.get x:=fun x hx PV=>by
   rw[ext_get bK,if_neg om,if_neg];intro e;subst e;exact PV (bG bK)
  have Tn:∀x cs',F x→h.rd x=some cs'→(dg h f cC (cs.take (len*z)++new)).rd x=some cs':=fun x cs' hx hr=>by
   rcases Qj with e|e
   ·rw[e];exact Hm H.wf bK hr
   ·exact ib H.wf HK (K0.apart m _ f x hl (by rw[hS,e];exact List.mem_cons_self) hx) hr
  obtain⟨M2,k2⟩:=H.PX K0 cC (len':=len+xs.length) (cs':=cs.take (len*z)++new) (y':=y2) hl hS hb hg hf ht Qi Qj fun hm same cA EO Wt=>
   uI (T:=fun x=>x=f) hm (fun _ h=>.inl h) cA same (fun x hx e=>n1 (by subst e;exact hx)) (aC _ _ _) EO Wt Qi dc (fun hw=>.inr ⟨hw,rfl⟩)
  refine dG.ck H hp hq dx (fin _ _ uw) ⟨M2,k2,by rw[p7];omega,fun _ h=>.inl h,Tn⟩ ?_ (fun n y ud aX=>?_) hK
  ·refine .tk om rfl (fun b' z' len hx=>?_) (fun z hx=>?_)
   ·rw[aC]at hx;cases hx;exact⟨_,om,rfl⟩
   ·rw[aC]at hx;cases hx
  ·obtain⟨q1,q2⟩:=qf H (y:=y2) (l:=some (.arr h.size z (len+xs.length))) n y ud aX;have lL:n≠m:=by simpa using aX
   refine⟨q1,q2,fun b' bE=>?_⟩;obtain⟨bO,hh⟩:=H.zd K0 ud bE;have Qk:hd h b'≠f:=fun e=>by
    rw[e]at hh;exact lL (K0.ey n m _ _ _ ud hl hh wg)
   exact⟨HK b' bO Qk,fun cs hr=>ib H.wf HK Qk hr⟩
theorem CZ (H:Mem X ρ F o c h) {st xt elem:TypeId} {z bytes:Nat} {xs:List (List TV)} {xv:Value} {S:Nat→Ft} (K0:MO X ρ F o c h S) {m b f t0 ee aE len cap:Nat} {w:Bool} {y y2:TO} {Sq:Ft} {cs new:List Value} (A:zg E st xt elem z bytes) (hlen:kJ xv=some xs.length) (pI:xs.length≠0)
 (fin:∀v h',bq E X.base h st xt (.slice (some ⟨b,0,some z⟩) len cap) xv=some (v,h')→bT E X.base af p h=some (.val v,h')) (hp:aB E af p=none) (hq:ba E af p=none) (dx:aP E af p=none)
 (hl:look o m=some y) (hS:S m=(f,w)::Sq) (hb:ρ m=some (.arr b z len)) (hg:h.get b=some (.cells cs f t0 ee)) (hf:h.cW b=some (f,b,aE)) (ht:aE≤b) (dc:X.base≤f) (hz:0<z) (Ev:cs.length=len*z) (fk:len≤cap)
 (j5:(len+xs.length+1)*(bytes+1)≤1099511627776) (M7:dC h z xs.length xv=some new) (v8:new.length=xs.length*z) (jE:new.all dW=true) (hw:w=true∨Sq=[])
 (uI:∀{c':Nat} {ρ':Gh} {F':Nat→Prop} {h':ab} {b' f' t1 tS qK:Nat} {T:Nat→Prop},(∀t v,VR c ρ F h t v→VR c' ρ' F' h' t v)→(∀b,F b→F' b)→(∀b cs,F b→h.rd b=some cs→h'.rd b=some cs)→(∀b,b<h.size→¬T (hd h b)→h'.get b=h.get b)→(∀x∈cu Sq,¬T x)→
  ρ' c=some (.arr b' z (len+xs.length))→h'.get b'=some (.cells (cs++new) f' t1 tS)→h'.cW b'=some (f',b',qK)→qK≤b'→X.base≤f'→(w=false→F' b')→OR c' ρ' F' h' X.base c ((f',w)::Sq) y2)
 (hK:K (.tk c) ((c,y2)::eu o m) (c+1) (.ck [m])):dG E X ρ F o c af h p K:=by
 have e:cs.take (len*z)=cs:=List.take_of_length_le om;exact DW H K0 A hlen pI fin hp hq dx hl hS hb hg hf ht dc hz om (.inl Ev) fk j5 M7 v8 jE hw (by rw[e];exact uI) hK
theorem A4 (L:bV T E) (H:Mem X ρ F o c h) {st xt:TypeId} {l:Int} {sv:Value} {fl:Bool} (hw:uC T st xt l o c K) (hs:VR c ρ F h (.sl 0 [] fl) sv) (hp:aB E af p=none) (hq:ba E af p=none) (dx:aP E af p=none)
 (fin:∀v h',fX E h st xt sv (.int .i64 l)=some (v,h')→bT E X.base af p h=some (.val v,h')):dG E X ρ F o c af h p K:=by
 have Fv:∀m y,look o m=some y→m≠c:=fun m y hl=>by have:=H.lt hl;omega
 have e:sv= .slice none 0 0:=by
  cases hs with
  |nil=>rfl
  |sl q1 q2 q3=>omega
 subst e;unfold uC at hw;split at hw
 ·rename_i elem k hd Gv;split at hw
  ·rename_i n bytes z hn zF hz;obtain⟨iJ,gJ⟩:=L.zero _ _ hz;split at hw
   ·rename_i zs hc hY;simp only[Bool.and_eq_true,beq_iff,aF]at hc;obtain⟨⟨l5,Eu⟩,C0⟩:=hc;split at hw
    ·rename_i JG;obtain⟨⟨b1,b2⟩,hK⟩:=hw;have j5:(l.toNat+1)*(bytes+1)≤1099511627776:=size_le om C0;have oO:=eQ (c:=c) (ρ:=ρ) (F:=F) (h:=h) gJ hY;have E9:zs.length=n:=by have:=oO.1;simp only[Array.length_toList]at this;omega
     have hE:=ER.replicate oO E9 JG l.toNat
     obtain⟨M2,k2⟩:=H.yW hE Eu;have uw:fX E h st xt (.slice none 0 0) (.int .i64 l)=some (fresh h (aI z.cells.toList l.toNat) n l.toNat):=by
      unfold fX;rw[L.desc _ _ hd,L.desc _ _ Gv];simp only[Option.bind_some,L.size _ _ hn,L.bytes _ _ zF,iJ];simp only[ju,l5,aW];rw[show Nat.beq n n=true from beq_iff.2 rfl,show Nat.blt 0 n=true from aF.2 Eu,show Nat.blt 0 l.toNat=true from aF.2 om,ax.2 j5];rfl
     rw[List.length_replicate]at M2 k2;refine dG.ck H hp hq dx (fin _ _ uw) ⟨M2,k2,by show h.size≤h.size+1;omega,fun _ h=>h,fun b cs hb hr=>(cL H.wf.le _ (H.CE hb)).trans hr⟩ ?_ (fun m y hl hm=>⟨?_,?_,fun b hb=>?_⟩) hK
     ·refine .tk om rfl (fun b z len hx=>?_) (fun z hx=>?_)
      ·rw[aC]at hx;cases hx;exact⟨_,om,rfl⟩
      ·rw[aC]at hx;cases hx
     ·rw[aD,if_neg (Fv m y hl).symm];exact⟨y,hl⟩
     ·rw[aK _ _ (Fv m y hl)]
     ·have:=H.uZ hl hb;exact⟨by rw[ab.ai,if_neg om],fun cs hr=>by rw[cL H.wf.le _ this];exact hr⟩
    ·exact hw.elim
   ·exact hw.elim
  ·exact hw.elim
 ·exact hw.elim
theorem C1 (L:bV T E) (H:Mem X ρ F o c h) {st xt:TypeId} {s x:TV} {sv xv:Value} (hw:yK T st xt s x o c K) (hs:VR c ρ F h s sv) (hx:VR c ρ F h x xv) (hp:aB E af p=none) (hq:ba E af p=none) (dx:aP E af p=none)
 (fin:∀v h',bq E X.base h st xt sv xv=some (v,h')→bT E X.base af p h=some (.val v,h')):dG E X ρ F o c af h p K:=by
 have w0:∀m y,look o m=some y→m∉([]:List Nat)→(∃y',look o m=some y')∧ρ m=ρ m:=fun m y hl _=>⟨⟨y,hl⟩,rfl⟩
 -- a slice without elements
 have emp:∀{z n:Nat},z=n∨z=0→VR c ρ F h (.sl z [] true) sv→sv= .slice none 0 0∨∃b oo cs,F b∧h.rd b=some cs∧oo≤cs.length∧sv= .slice (some ⟨b,oo,some n⟩) 0 0:=by
  intro z n hz hs;cases hs with
  |nil=>exact .inl rfl
  |sl q1 q2 q3 q4 q5 q6 q7 q8 q9 LH=>
   have Kj:z=n:=by omega
   subst Kj;simp at q4;subst q4;rw[q6 rfl];exact .inr ⟨_,_,_,q1,q2,om,rfl⟩
 have Ql:∀{y:TO} {o1:Ob} {fS:Gh} {F1:Nat→Prop} {h1:ab},Mem X fS F1 ((c,y)::o1) (c+1) h1→∃F',Mem X fS F' ((c,y)::o1) (c+1) h1∧(∀t v,VR (c+1) fS F1 h1 t v→VR (c+1) fS F' h1 t v)∧∀b,F1 b→F' b:=
  fun {y o1 fS F1 h1} M=>⟨F1,M,fun _ _ h=>h,fun _ h=>h⟩
 have closed:∀{e:List TV},(∀t∈e,fz t=true)→∀t∈e,kI t=true:=fun {e} he t ht=>by
  have:=he t ht;unfold kI;split<;>first|rfl |exact this
 unfold yK at hw;split at hw
 ·rename_i elem Ve J0 Gv;split at hw
  ·rename_i n bytes z0 zx xs hn zF zP zO;split at hw
   ·rename_i hc;simp only[Bool.and_eq_true,beq_iff,aF,Bool.or_eq_true]at hc;obtain⟨⟨⟨Na,nC⟩,Wu⟩,C0⟩:=hc;have size:∀{k:Nat},k<1048576→(k+1)*(bytes+1)≤1099511627776:=fun {k} hk=>size_le hk C0;have A:zg E st xt elem n bytes:=⟨L.desc _ _ J0,⟨_,L.desc _ _ Gv⟩,L.size _ _ hn,L.bytes _ _ zF,_,(L.zero _ _ zP).1,Na⟩;obtain⟨hlen,_,LN,jM⟩:=mY H zO (Wu.imp id fun h=>⟨h,rfl⟩) (by simp) hx
    have Nb:∀{fS:Gh} {F1:Nat→Prop} {o1:Ob},Mem X fS F1 o1 c h→∀new,(([]:List (Nat×List TV))=[]→ER c fS F1 h n xs new)→new.length=xs.length*n→(∀e∈xs,e.length=n)→cX c fS F1 h (bZ xs []).flatten new→Mem X (bP fS c (some (.arr h.size n xs.length))) F1 ((c,.arr n true xs)::o1) (c+1) (h.push (.cells new h.size h.size 0))∧∀t v,VR c fS F1 h t v→VR (c+1) (bP fS c (some (.arr h.size n xs.length))) F1 (h.push (.cells new h.size h.size 0)) t v:=
     fun M1 new hE _ _ _=>M1.yW (hE rfl) nC
    split at hw
    ·rename_i z;split at hw
     ·rename_i hz;simp only[Bool.or_eq_true,beq_iff]at hz;obtain⟨j5,hK⟩:=hw;exact jo H A nC hlen jM fin hp hq dx H (fun _ _ h=>h) (fun _ h=>h) w0 (emp hz hs) (size j5) (fun e c ρ F m hm=>by subst e;exact .nil hm nC) (Nb H) Ql hK
     ·exact hw.elim
    ·rename_i m;split at hw
     ·rename_i z w es hl;split at hw
      ·rename_i hz;rw[beq_iff]at hz;subst hz;obtain⟨HL,hK⟩:=hw;have j5:=size HL;obtain⟨S,K0⟩:=H.ex;have hO:=K0.bR m _ hl;generalize hS:S m=Sm at hO;have HM:=hO.tk rfl hs;cases hO with
       |nil hb iJ=>
        rcases HM with⟨_,_,tD⟩|⟨b,cap,h1,_⟩
        ·obtain⟨M1,k1⟩:=H.gone hl rfl;refine jo H (ns:=[m]) (y1:=.arr z true xs) (y2:=.arr z w xs) A nC hlen jM fin hp hq dx M1 k1 (fun _ h=>h) (fun n y ud aX=>?_) (tD.imp id fun⟨b,o',cs,q1,q2,q3,q4,q5⟩=>⟨b,o',cs,q1,q2,q4,q5⟩) (by simpa using j5) (fun e c ρ F m hm=>by subst e;exact .nil hm nC) (Nb M1) (fun M=>M.flag w) (by simpa using hK);have lL:n≠m:=by simpa using aX
         exact⟨⟨y,by rw[cS,if_neg lL];exact ud⟩,aK _ _ lL⟩
        ·rw[hb]at h1;cases h1
       |arr hb hg hf ht dc iJ bY jL fy hc hF=>
        rename_i b f t0 ee aE cs;rcases HM with⟨_,h1,_⟩|⟨b',cap,h1,fk,rfl⟩
        ·rw[hb]at h1;cases h1
        ·rw[hb]at h1;cases h1;by_cases pI:xs.length=0
         ·have LM:xs=[]:=List.length_eq_zero_iff.1 pI;subst LM;obtain⟨M2,k2⟩:=H.rename hl hb
          have uw:bq E X.base h st xt (.slice (some ⟨b,0,some z⟩) es.length cap) xv=some (.slice (some ⟨b,0,some z⟩) es.length cap,h):=
           u7 A rfl (by rintro l k e;cases e) (by rintro b oo sp l k e;cases e;rfl) hlen
          rw[List.append_nil]at hK;refine dG.ck H hp hq dx (fin _ _ uw) ⟨M2,k2,Nat.le_refl _,fun _ h=>h,fun _ _ _ hr=>hr⟩ ?_ (fun n y ud aX=>?_) hK
          ·refine .tk om rfl (fun b' z' len hx=>?_) (fun z hx=>?_)
           ·rw[aC]at hx;cases hx;exact⟨_,fk,rfl⟩
           ·rw[aC]at hx;cases hx
          ·obtain⟨q1,q2⟩:=qf H (y:=.arr z w es) (l:=some (.arr b z es.length)) n y ud aX;exact⟨q1,q2,fun b' _=>⟨rfl,fun _ hr=>hr⟩⟩
         ·rcases jM with e|⟨new,jS,hE,v8,Gu,hV⟩
          ·subst e;simp at pI
          ·have To:ER c ρ F h z (es++xs) (cs++new):=ER.append ⟨bY,jL,fy,hc⟩ (hE rfl);refine CZ H K0 (y2:=.arr z w (es++xs)) A hlen pI fin hp hq dx hl hS hb hg hf ht dc iJ bY fk j5 jS v8 ((hE rfl).dW iJ) (.inr rfl) (fun hm oy cA same hT C2 jy ph Kv A5 DH=>?_) hK;exact OR.Hk (by rw[List.length_append];exact C2) jy ph Kv A5 iJ (To.mono hm) DH
      ·exact hw.elim
     ·rename_i z es DD hl;split at hw
      ·rename_i hz;rw[beq_iff]at hz;subst hz;obtain⟨HL,hK⟩:=hw;have j5:=size HL;obtain⟨S,K0⟩:=H.ex;have hO:=K0.bR m _ hl;generalize hS:S m=Sm at hO;have HM:=hO.tk rfl hs;cases hO with
       |fi hb iJ=>
        rcases HM with⟨_,_,tD⟩|⟨b,cap,h1,_⟩
        ·obtain⟨M1,k1⟩:=H.gone hl rfl;refine jo H (ns:=[m]) (y1:=.cm z xs []) (y2:=.cm z xs []) A nC hlen jM fin hp hq dx M1 k1 (fun _ h=>h) (fun n y ud aX=>?_) (tD.imp id fun⟨b,o',cs,q1,q2,q3,q4,q5⟩=>⟨b,o',cs,q1,q2,q4,q5⟩) (by simpa using j5) (fun e c ρ F m hm=>by subst e;exact .fi hm nC) (fun new hE h1 h2 h3=>?_) Ql (by simpa using hK)
         ·have lL:n≠m:=by simpa using aX
          exact⟨⟨y,by rw[cS,if_neg lL];exact ud⟩,aK _ _ lL⟩
         ·exact M1.CF ⟨h1,h2,fun e he=>closed (LN e he),by simp,b8.j9 h3⟩ nC
        ·rw[hb]at h1;cases h1
       |cm hb hg hf ht dc iJ bY jL bL e7 hc=>
        rename_i Sq b f t0 ee aE cs;rcases HM with⟨_,h1,_⟩|⟨b',cap,h1,fk,rfl⟩
        ·rw[hb]at h1;cases h1
        ·rw[hb]at h1;cases h1;by_cases pI:xs.length=0
         ·have LM:xs=[]:=List.length_eq_zero_iff.1 pI;subst LM;obtain⟨M2,k2⟩:=H.rename hl hb
          have uw:bq E X.base h st xt (.slice (some ⟨b,0,some z⟩) es.length cap) xv=some (.slice (some ⟨b,0,some z⟩) es.length cap,h):=
           u7 A rfl (by rintro l k e;cases e) (by rintro b oo sp l k e;cases e;rfl) hlen
          rw[List.append_nil]at hK;refine dG.ck H hp hq dx (fin _ _ uw) ⟨M2,k2,Nat.le_refl _,fun _ h=>h,fun _ _ _ hr=>hr⟩ ?_ (fun n y ud aX=>?_) hK
          ·refine .tk om rfl (fun b' z' len hx=>?_) (fun z hx=>?_)
           ·rw[aC]at hx;cases hx;exact⟨_,fk,rfl⟩
           ·rw[aC]at hx;cases hx
          ·obtain⟨q1,q2⟩:=qf H (y:=.cm z es DD) (l:=some (.arr b z es.length)) n y ud aX;exact⟨q1,q2,fun b' _=>⟨rfl,fun _ hr=>hr⟩⟩
         ·rcases jM with e|⟨new,jS,hE,v8,Gu,hV⟩
          ·subst e;simp at pI
          ·refine CZ H K0 (y2:=.cm z (es++xs) DD) A hlen pI fin hp hq dx hl hS hb hg hf ht dc iJ bY fk j5 jS v8 ((hE rfl).dW iJ) (.inl rfl) (fun hm oy cA same hT C2 jy ph Kv A5 DH=>?_) hK;refine OR.MN (by rw[List.length_append];exact C2) jy ph Kv A5 iJ ⟨by simp[bY,v8,Nat.add_mul],fun e he=>?_,fun e he=>?_,fun p hp=>⟨by have:=(e7 p hp).1;simp;omega,(e7 p hp).2⟩,?_⟩
           ·rcases List.mem_append.1 he with h1|h1
            ·exact jL e h1
            ·exact Gu e h1
           ·rcases List.mem_append.1 he with h1|h1
            ·exact bL e h1
            ·exact closed (LN e h1)
           ·have:=(hc.bf H.wf same oy cA hm hT).join (b8.j9 (base:=X.base) (hV.sj hm));rw[List.append_nil]at this;rw[(CY fun p hp=>(e7 p hp).1).1,List.flatten_append];exact this
      ·exact hw.elim
     ·exact hw.elim
    ·rename_i m k;split at hw
     ·rename_i z es hl;split at hw
      ·rename_i hz;rw[beq_iff]at hz;subst hz;obtain⟨⟨O0,HL,LM⟩,hK⟩:=hw;have j5:=size HL;have pI:xs.length≠0:=fun e=>LM (List.length_eq_zero_iff.1 e);obtain⟨S,K0⟩:=H.ex;have hO:=K0.bR m _ hl;generalize hS:S m=Sm at hO;cases hs with
       |pv BX nJ ha h0=>
       cases hO with
       |nil hb iJ=>
        have tD:=h0 _ hb;have EM:k=0:=by simpa using O0
        subst EM;obtain⟨M1,k1⟩:=H.gone hl rfl;refine jo H (ns:=[m]) (y1:=.arr z true xs) (y2:=.arr z true xs) A nC hlen jM fin hp hq dx M1 k1 (fun _ h=>h) (fun n y hl aX=>?_) (tD.imp id fun⟨b,o',cs,q1,q2,q3,q4,q5⟩=>⟨b,o',cs,q1,q2,q4,q5⟩) (by simpa using j5) (fun e c ρ F m hm=>by subst e;exact .nil hm nC) (Nb M1) Ql (by simpa using hK);have lL:n≠m:=by simpa using aX
        exact⟨⟨y,by rw[cS,if_neg lL];exact hl⟩,aK _ _ lL⟩
       |arr hb hg hf ht dc iJ bY jL fy hc hF=>
        rename_i b f t0 ee aE cs;obtain⟨cap,fk,rfl⟩:=ha _ _ _ hb;rcases jM with e|⟨new,jS,hE,v8,Gu,hV⟩
        ·exact absurd e LM
        ·have Wv:k*z≤cs.length:=by rw[bY];exact Nat.mul_le_mul_right _ O0
         have To:ER c ρ F h z (es.take k++xs) (cs.take (k*z)++new):=ER.append (ER.take ⟨bY,jL,fy,hc⟩ O0) (hE rfl);refine DW H K0 (y2:=.arr z true (es.take k++xs)) A hlen pI fin hp hq dx hl hS hb hg hf ht dc iJ Wv (.inr rfl) fk j5 jS v8 ((hE rfl).dW iJ) (.inl rfl) (fun hm oy cA same hT C2 jy ph Kv A5 DH=>?_) hK;exact OR.Hk (by rw[List.length_append,List.length_take,Nat.min_eq_left O0];exact C2) jy ph Kv A5 iJ (To.mono hm) DH
      ·exact hw.elim
     ·exact hw.elim
    ·exact hw.elim
   ·exact hw.elim
  ·rename_i n bytes z0 zx xs q hn zF zP zO;split at hw
   ·rename_i hc;simp only[Bool.and_eq_true,beq_iff,aF]at hc;obtain⟨⟨⟨⟨Na,nC⟩,rfl⟩,C0⟩,gJ,Tp⟩:=hc;have size:∀{k:Nat},k<1048576→(k+1)*(bytes+1)≤1099511627776:=fun {k} hk=>size_le hk C0;have A:zg E st xt elem zx bytes:=⟨L.desc _ _ J0,⟨_,L.desc _ _ Gv⟩,L.size _ _ hn,L.bytes _ _ zF,_,(L.zero _ _ zP).1,Na⟩;obtain⟨hlen,Fw,LN,jM⟩:=mY H zO (.inl rfl) (by simpa using gJ) hx;obtain⟨o1,o2⟩:=Fw q (by simp);have pI:xs.length≠0:=by omega
    have Qm:∀{fS:Gh} {F1:Nat→Prop} {o1:Ob},Mem X fS F1 o1 c h→∀new,([q]=[]→ER c fS F1 h zx xs new)→new.length=xs.length*zx→(∀e∈xs,e.length=zx)→cX c fS F1 h (bZ xs [q]).flatten new→Mem X (bP fS c (some (.arr h.size zx xs.length))) F1 ((c,.cm zx xs [q])::o1) (c+1) (h.push (.cells new h.size h.size 0))∧∀t v,VR c fS F1 h t v→VR (c+1) (bP fS c (some (.arr h.size zx xs.length))) F1 (h.push (.cells new h.size h.size 0)) t v:=
     fun M1 new _ h1 h2 h3=>M1.CF ⟨h1,h2,fun e he=>closed (LN e he),Fw,b8.j9 h3⟩ nC
    have Qn:∀{new:List Value},cX c ρ F h (bZ xs [q]).flatten new→new.length=xs.length*zx→new.all dW=true:=by
     intro new hV _;refine cX.Qh hV fun t ht=>?_;obtain⟨e,h1,h2⟩:=List.mem_flatten.1 ht;rcases List.mem_or_eq_of_mem_set (show e∈xs.set q.1 q.2 from h1)with h3|rfl
     ·have:=LN e h3 t h2;cases t<;>first|rfl |simp[fz]at this
     ·exact List.all_eq_true.1 Tp t h2
    -- to an array that is there
    have main:∀{es:List (List TV)} {DD:List (Nat×List TV)} {Sq:Ft} {S:Nat→Ft} {b f t0 ee aE m cap:Nat} {cs:List Value} {y:TO},MO X ρ F o c h S→look o m=some y→S m=(f,true)::Sq→ρ m=some (.arr b zx es.length)→h.get b=some (.cells cs f t0 ee)→h.cW b=some (f,b,aE)→aE≤b→X.base≤f→cs.length=es.length*zx→es.length≤cap→sv= .slice (some ⟨b,0,some zx⟩) es.length cap→
     (∀e∈es,e.length=zx)→(∀e∈es,∀t∈e,kI t=true)→(∀p∈DD,p.1<es.length∧p.2.length=zx)→b8 c ρ F h X.base Sq (bZ es DD).flatten cs→es.length+xs.length<1048576→K (.tk c) ((c,.cm zx (es++xs) ((es.length+q.1,q.2)::DD))::eu o m) (c+1) (.ck [m])→dG E X ρ F o c af h p K:=by
     intro es DD Sq S b f t0 ee aE m cap cs y K0 hl hS hb hg hf ht dc bY fk tD jL bL e7 hc j5 hK;subst tD;rcases jM with e|⟨new,jS,_,v8,Gu,hV⟩
     ·subst e;simp at pI
     ·refine CZ H K0 (y2:=.cm zx (es++xs) ((es.length+q.1,q.2)::DD)) A hlen pI fin hp hq dx hl hS hb hg hf ht dc nC bY fk (size j5) jS v8 (Qn hV v8) (.inl rfl) (fun hm oy cA same hT C2 jy ph Kv A5 DH=>?_) hK;refine OR.MN (by rw[List.length_append];exact C2) jy ph Kv A5 nC ⟨by simp[bY,v8,Nat.add_mul],fun e he=>?_,fun e he=>?_,fun r hr=>?_,?_⟩
      ·rcases List.mem_append.1 he with h1|h1
       ·exact jL e h1
       ·exact Gu e h1
      ·rcases List.mem_append.1 he with h1|h1
       ·exact bL e h1
       ·exact closed (LN e h1)
      ·rcases List.mem_cons.1 hr with rfl |hr
       ·exact⟨by simp;omega,o2⟩
       ·have:=e7 r hr;exact⟨by simp;omega,this.2⟩
      ·have:=(hc.bf H.wf same oy cA hm hT).join (b8.j9 (base:=X.base) (hV.sj hm));rw[List.append_nil]at this;rw[Ku fun p hp=>(e7 p hp).1,List.flatten_append];exact this
    split at hw
    ·rename_i z;split at hw
     ·rename_i hz;simp only[Bool.or_eq_true,beq_iff]at hz;obtain⟨j5,hK⟩:=hw;exact jo H A nC hlen jM fin hp hq dx H (fun _ _ h=>h) (fun _ h=>h) w0 (emp hz hs) (size j5) (fun e=>by subst e;simp at pI) (Qm H) Ql hK
     ·exact hw.elim
    ·rename_i m;have DX:∀{y:TO},look o m=some y→wz y=true→AT y=0→Fe y=zx→(sv= .slice none 0 0∨∃b o cs,F b∧h.rd b=some cs∧0<Fe y∧o≤cs.length∧sv= .slice (some ⟨b,o,some (Fe y)⟩) 0 0)→xs.length<1048576→K (.tk c) ((c,.cm zx xs [q])::eu o m) (c+1) (.ck [m])→dG E X ρ F o c af h p K:=by
      intro y hl hy h0 hz tD j5 hK;obtain⟨M1,k1⟩:=H.gone hl hy;refine jo H (ns:=[m]) (y1:=.cm zx xs [q]) (y2:=.cm zx xs [q]) A nC hlen jM fin hp hq dx M1 k1 (fun _ h=>h) (fun n y ud aX=>?_) (tD.imp id fun⟨b,o',cs,q1,q2,q3,q4,q5⟩=>⟨b,o',cs,q1,q2,q4,by rw[←hz];exact q5⟩) (size j5) (fun e=>by subst e;simp at pI) (Qm M1) Ql hK;have lL:n≠m:=by simpa using aX
      exact⟨⟨y,by rw[cS,if_neg lL];exact ud⟩,aK _ _ lL⟩
     have HP:tt 0 [q]=[q]:=by simp[tt]
     split at hw
     ·rename_i z es hl;split at hw
      ·rename_i hz;rw[beq_iff]at hz;subst hz;obtain⟨j5,hK⟩:=hw;obtain⟨S,K0⟩:=H.ex;have hO:=K0.bR m _ hl;generalize hS:S m=Sm at hO;have HM:=hO.tk rfl hs;cases hO with
       |nil hb iJ=>
        rcases HM with⟨h0,_,tD⟩|⟨b,cap,h1,_⟩
        ·exact DX hl rfl h0 rfl tD (by simpa using j5) (by simpa[HP]using hK)
        ·rw[hb]at h1;cases h1
       |arr hb hg hf ht dc iJ bY jL fy hc hF=>
        rcases HM with⟨_,h1,_⟩|⟨b',cap,h1,fk,tD⟩
        ·rw[hb]at h1;cases h1
        ·rw[hb]at h1;cases h1;exact main (DD:=[]) K0 hl hS hb hg hf ht dc bY fk tD jL (fun e he=>closed (fy e he)) (by simp) (b8.j9 (fJ bY jL hc)) j5 hK
      ·exact hw.elim
     ·rename_i z es DD hl;split at hw
      ·rename_i hz;rw[beq_iff]at hz;subst hz;obtain⟨j5,hK⟩:=hw;obtain⟨S,K0⟩:=H.ex;have hO:=K0.bR m _ hl;generalize hS:S m=Sm at hO;have HM:=hO.tk rfl hs;cases hO with
       |fi hb iJ=>
        rcases HM with⟨h0,_,tD⟩|⟨b,cap,h1,_⟩
        ·exact DX hl rfl h0 rfl tD (by simpa using j5) (by simpa[HP]using hK)
        ·rw[hb]at h1;cases h1
       |cm hb hg hf ht dc iJ bY jL bL e7 hc=>
        rcases HM with⟨_,h1,_⟩|⟨b',cap,h1,fk,tD⟩
        ·rw[hb]at h1;cases h1
        ·rw[hb]at h1;cases h1;exact main K0 hl hS hb hg hf ht dc bY fk tD jL bL e7 hc j5 hK
      ·exact hw.elim
     ·exact hw.elim
    ·exact hw.elim
   ·exact hw.elim
  ·exact hw.elim
 ·exact hw.elim
end
section
variable {T E:Env} {X:Cx} {ρ:Gh} {F:Nat→Prop} {o:Ob} {c:Nat} {af:AF} {f:Fr} {h:ab} {p:Oper} {K:OK}
theorem kD:∀{ids:List (Option Nat)} {o:Ob} {n:Nat},(∀k:Nat,ids[k]? ≠some (some n))→look (jg ids o) n=look o n
 |[],o,n,_=>rfl
 |none::l,o,n,h=>kD (ids:=l) fun k=>by simpa using h (k+1)
 |some m::l,o,n,h=>by
  simp only[jg];rw[kD (ids:=l) fun k=>by simpa using h (k+1),cS,if_neg];intro e;subst e;exact h 0 rfl
theorem rr:∀{ids:List (Option Nat)} {n:Nat},n∉lI ids→∀k:Nat,ids[k]? ≠some (some n)
 |[],n,_,k=>by simp
 |none::l,n,h,k=>by
  cases k with
  |zero=>simp
  |succ k=>simpa using rr (ids:=l) h k
 |some m::l,n,h,k=>by
  simp only[lI,List.mem_cons,not_or]at h;cases k with
  |zero=>simp;exact fun e=>h.1 e.symm
  |succ k=>simpa using rr (ids:=l) h.2 k
theorem so:∀(sh:List Nat) (o:Ob) (n:Nat) (y:TO),look o n=some y→∃y',look (M.ct sh o) n=some y'∧gz y y'
 |[],o,n,y,h=>⟨y,h,gz.refl _⟩
 |m::sh,o,n,y,h=>by
  obtain⟨y1,h1,h2⟩:=mV o m n y h;obtain⟨y2,h3,h4⟩:=so sh _ n y1 h1;exact⟨y2,h3,h2.trans h4⟩
theorem mZ (H:Mem X ρ F o c h) (sh:List Nat):∃F',mX X ρ c h F o F' (M.ct sh o):=by
 obtain⟨F',h1,h2,h3⟩:=H.ct sh;exact⟨F',h1,h2,h3,so sh o⟩
theorem sq:∀{U:List Nat} {o:Ob} {n:Nat},n∉U→look (sg U o) n=look o n
 |[],o,n,_=>rfl
 |m::l,o,n,h=>by
  simp only[List.mem_cons,not_or]at h;simp only[sg];rw[sq h.2,cS,if_neg h.1]
theorem HQ (NX:CI E X) (H:Mem X ρ F o c h) {g:FuncId} {args:List TV} {dJ:List Value} {st:Bool} (bA:st=true→CM E g) (hw:LA st (VC E) g args o c K) (ha:cX c ρ F h args dJ) (hp:aB E af p=none) (hq:ba E af p=none) (dx:aP E af p=none)
 (he:bT E X.base af p h=some (.enter g dJ,h)):dG E X ρ F o c af h p K:=by
 obtain⟨sh,ids,U,Hh,o0,R,Ww,⟨gH,hO,hi⟩,hK⟩:=hw;simp only[Bool.and_eq_true]at hi;obtain⟨hi,hU⟩:=hi;obtain⟨F1,Sh⟩:=mZ H sh;have H1:=Sh.mem;obtain⟨S,K1⟩:=H1.ex;obtain⟨S1,Ns,D⟩:=hO.told H1 K1 hi hU;obtain⟨hand,Qo⟩:=H1.hand K1 D;have Nc:=Hn (zf:=DM o0) H1 _ _ _ gH (ha.sj Sh.bf);obtain⟨n0,v,h',ρ',F',r,o',c',bH,hR,MC,hr⟩:=Ww X.base _ F1 h S1 dJ (NX.now H1) hand Qo Nc;obtain⟨MM,k1,k2,k3⟩:=H1.merge K1 hi D MC;have cI:h.size≤h'.size:=MC.l9.size;have Kw:Raw ρ o h (og ids c ρ ρ') (CD (back ids c) o'++sg U (jg ids (ct sh o))) h' (lI ids++U):=fun n y hl aX=>by
  simp only[List.mem_append,not_or]at aX;have hn:=rr aX.1;have BX:=H.lt hl;obtain⟨y1,q1,q2⟩:=Sh.wk n y hl;have E5:=k3 n y1 q1 hn aX.2;refine⟨⟨y1,?_⟩,tw hn BX,fun b hb=>?_⟩
  ·rw[iB];split
   ·rename_i y3 h3;obtain⟨k,y4,e1,_,_⟩:=qV (fun k k'=>uN hi) h3;exfalso;unfold back at e1;split at e1
    ·rename_i m hm;subst e1;exact hn k hm
    ·omega
   ·rw[sq aX.2,kD hn];exact q1
  ·obtain⟨Lh,hh⟩:=H1.zd K1 q1 hb;have Qd:¬kC S1 o0 (hd h b):=E5 _ hh;have hg:=MC.l9.bf b Lh Qd;refine⟨hg,fun cs hr=>?_⟩;obtain⟨r,a1,a2,a3⟩:=rd_some hr;obtain⟨f1,t1,tS,oL⟩:=cY a3;obtain⟨cr,gG⟩:=bz a1;obtain⟨qJ,p1,p2,iY⟩:=dj a1;rw[oL]at iY;cases iY;have pj:=MC.l9.bf r.1 (H.wf.lt gG) (by
    have:hd h r.1=hd h b:=by rw[bG gG,bG oL]
    show¬kC S1 o0 (hd h r.1);rw[this];exact Qd)
   exact cJ (bp (hg.trans oL) (pj.trans gG)) a2 (au (hg.trans oL))
 refine⟨n0,⟨v,h',.ck h h'⟩,r.kB (back ids c),_,_,_,F',MH st o0 (lI ids++U),fun n hn=>?_,hK r o' c' hR,⟨MM,fun t x hx=>k1 t x (Sh.bf t x hx),cI,fun b hb=>MC.F0 b (Sh.FF b hb),fun b cs hb fj=>(MC.l9.cA b (Sh.FF b hb)).trans fj⟩,k2 _ _ hr,?_⟩
 ·unfold cV;rw[hp,hq,dx,he];simp only
  rw[uT hn _ _ _ _ bH];rfl
 ·unfold MH;split
  ·rename_i hs;exact .mi Kw (bA rfl _ _ _ _ _ _ bH)
  ·split
   ·rename_i tX;rw[tX]at Kw;exact .mj Kw fun b hb=>MC.l9.bf b hb fun⟨k,y,q,_⟩=>by simp[look]at q
   ·exact .ck Kw
end
end Go.M
end
