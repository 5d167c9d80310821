/-
  Part 8 of the library that the proof leans on.
-/
import Derived.Test.YthaboieeoopmjaaGreatDoorL7
namespace Go.M
open Go
section
variable {T E:Env} {X:Cx} {ρ:Gh} {F:Nat→Prop} {o:Ob} {c:Nat} {af:AF} {f:Fr} {h:ae} {p:Oper} {K:OK}
theorem eZ.dr (_:Mem X ρ F o c h) {v:TV} {x:Value} {h':ae} {ρ':Gh} {F':Nat→Prop} {o':Ob} {c':Nat} {ns:List Nat} (hp:aX E af p=none) (hq:bW E af p=none) (ha:br E af p=none)
 (he:dj E X.base af p h=some (.val x,h')) (hN:Nx X ρ F o c h ρ' F' o' c' h') (hv:VR c' ρ' F' h' v x) (hr:Raw ρ o h ρ' o' h' ns) (hK:K v o' c' (.dr ns)):eZ E X ρ F o c af h p K:=by
 refine⟨0,⟨x,h',.dr h h'⟩,v,o',c',ρ',F',.dr ns,fun n _=>?_,hK,hN,hv,.dr hr⟩;unfold dW;rw[hp,hq,ha,he]
theorem ta (H:Mem X ρ F o c h) {F1:Nat→Prop} {o1:Ob} (Sh:po X ρ c h F o F1 o1) {S:Nat→Ft} (K1:MO X ρ F1 o1 c h S) {m:Nat} {y y':TO} {h':ae} (hl:look o1 m=some y) {x:Nat} (hhm:x∈dI (S m))
 (same:∀z,z<h.size→hd h z≠x→h'.get z=h.get z):Raw ρ o h ρ (eX o1 m y') h' [m]:=by
 intro n yn hn bD;have nW:n≠m:=by simpa using bD
 obtain⟨y1,k1,k2⟩:=Sh.wk n yn hn;refine⟨⟨y1,by rw[eo,if_neg nW];exact k1⟩,rfl,fun b hb=>?_⟩;obtain⟨q1,q2⟩:=Sh.mem.C7 K1 k1 hb;have Z3:hd h b≠x:=fun e=>by
  rw[e]at q2;exact nW (K1.fu n m y1 y _ k1 hl q2 hhm)
 exact⟨same b q1 Z3,fun cs hr=>jx H.wf same Z3 hr⟩
theorem E3 (_:Mem X ρ F o c h) {F1:Nat→Prop} {o1:Ob} (S:po X ρ c h F o F1 o1) {ρ':Gh} {F2:Nat→Prop} {o2:Ob} {c2:Nat} {h':ae} (M:Mem X ρ' F2 o2 c2 h') (hk:∀t x,VR c ρ F1 h t x→VR c2 ρ' F2 h' t x) (hF:∀b,F1 b→F2 b)
 (fO:h.size≤h'.size) (db:∀b cs,F b→h.rd b=some cs→h'.rd b=some cs):Nx X ρ F o c h ρ' F2 o2 c2 h':=
 ⟨M,fun t x hx=>hk t x (S.bw t x hx),fO,fun b hb=>hF b (S.FF b hb),db⟩
theorem JV {t:TV} {x:Value} (ho:zR t=true) (hv:VR c ρ F h t x):gH x=true:=by
 cases hv with
 |s hp=>cases x<;>simp[az]at hp<;>rfl
 |tk hn kD=>cases x<;>simp[Lh]at kD;rfl
 |wp hn kD=>cases x<;>simp[YH]at kD;rfl
 |j=>simp[zR]at ho
 |agg=>simp[zR]at ho
 |c4=>simp[zR]at ho
 |sv=>simp[zR]at ho
 |pv=>simp[zR]at ho
 |_=>rfl
theorem wS:∀{l:List TV} {m:List Value},l.all zR=true→dF c ρ F h l m→m.all gH=true
 |[],m,_,H=>by rw[H.bC];rfl
 |t::l,m,ho,H=>by
  simp only[List.all_cons,Bool.and_eq_true]at ho;obtain⟨v,m',rfl,h1,h2⟩:=H.aL;simp only[List.all_cons,Bool.and_eq_true];exact⟨JV ho.1 h1,wS ho.2 h2⟩
def OF (E:Env) (base:Nat) (t:TypeId) (a v:Value) (h:ae):Option (wi×ae):=(E.size t).bind fun n=>(iS a).bind fun p=>
      bI (Nat.beq v.cells.size n&&v.cells.toList.all gH)<|(h.rd p.1).bind fun cs=>(dz cs p.2 v.cells.toList).bind fun cs'=>(h.wr base p.1 cs').bind fun h'=>some (.val undef,h')
theorem E4 {α:Type} {v1 v2 v3 YJ xs:List α} {p:Nat} (h:dz v2 p xs=some YJ):dz (v1++(v2++v3)) (v1.length+p) xs=some (v1++(YJ++v3)):=by
 obtain⟨s1,s2,s3⟩:=dv h;obtain⟨r,hr⟩:=lZ (n:=v1.length+p) (l:=v1++(v2++v3)) (xs:=xs) (by simp;omega);rw[hr]
 congr 1
 rw[ku hr,ku h];rw[List.take_length_add_append,List.drop_length_add_append,List.take_append_of_le_length om,List.drop_append_of_le_length om,List.drop_append_of_le_length (by rw[List.length_drop];omega)];simp[List.append_assoc]
theorem cU.dz {base:Nat} {S:Ft} {l xs r:List TV} {m ys:List Value} {p:Nat} (H:cU c ρ F h base S l m) (hs:M.dz l p xs=some r) (hx:dF c ρ F h xs ys):∃m' S',M.dz m p ys=some m'∧cU c ρ F h base S' r m'∧S'.Sublist S:=by
 obtain⟨s1,s2,s3⟩:=dv hs;have hlen:=H.len;obtain⟨m',hm⟩:=lZ (n:=p) (l:=m) (xs:=ys) (by rw[←hx.1,←hlen];exact s1);obtain⟨S1,S2,S3,rfl,a1,a2,a3⟩:=H.part p xs.length;refine⟨m',S1++S3,hm,?_,(List.sublist_append_right S2 S3).append_left S1⟩;rw[ku hs,ku hm,←hx.1];exact a1.join ((cU.kS (base:=base) hx).join a3)
theorem yf {α:Type} {l:List α} {i:Nat} {e:α} (he:l[i]? =some e):l.set i e=l:=by
 refine List.ext_getElem? fun k=>?_;rw[List.getElem?_set];by_cases ek:i=k
 ·subst ek;rw[if_pos rfl,if_pos (List.getElem?_eq_some_iff.1 he).1,he]
 ·rw[if_neg ek]
theorem LC (L:ct T E) (H:Mem X ρ F o c h) {t:TypeId} {a v:TV} {av vv:Value} (hw:HI T t a v o c K) (ha:VR c ρ F h a av) (hv:VR c ρ F h v vv) (hp:aX E af p=none) (hq:bW E af p=none) (eF:br E af p=none)
 (he:dj E X.base af p h=OF E X.base t av vv h):eZ E X ρ F o c af h p K:=by
 unfold HI at hw;split at hw
 ·exact hw.elim
 ·rename_i n hn;split at hw
  ·exact hw.elim
  ·rename_i hc;simp only[Bool.and_eq_true,beq_iff]at hc;obtain⟨⟨JW,hlen⟩,gJ⟩:=hc;have s7:=iZ hv JW;have jK:=wS gJ s7;have fO:vv.cells.size=n:=by have:=s7.1;simp only[Array.length_toList]at this;omega
   have go:∀b q cs cs' h',av= .pointer (some ⟨b,q,none⟩)→h.rd b=some cs→dz cs q vv.cells.toList=some cs'→h.wr X.base b cs'=some h'→dj E X.base af p h=some (.val undef,h'):=by
    rintro b q cs cs' h' rfl h1 h2 h3;rw[he];unfold OF;simp only[L.size _ _ hn,Option.bind_some,iS,fO,jK,h1,h2,h3,bI];simp
   split at hw
   ·rename_i m q;split at hw
    ·rename_i cs hl;split at hw
     ·rename_i uc gX;obtain⟨S,K0⟩:=H.ex;have hO:=K0.b9 m _ hl;generalize hS:S m=Sm at hO;cases hO with
      |cells hb hg zU hc=>
       rename_i Sq b ba csv;cases ha with
       |ptr cp=>
        rw[hb]at cp;cases cp;have fN:=eK (cB hg hg) zU (aR hg);obtain⟨Z4,S',h1,h2,h3⟩:=hc.dz gX s7;have U0:(b,true)∈S m:=by rw[hS];exact List.mem_cons_self
        have qX:=K0.fv m _ b hl (dS U0);have nX:=K0.DZ m _ hl;rw[hS]at nX;obtain⟨n1,n2⟩:=List.nodup_cons.1 nX;have nT:((b,true)::S').Sublist ((b,true)::Sq):=h3.cons_cons _;have W:=CX (cs':=Z4) H.wf hg (cB hg hg);obtain⟨t',th',lN⟩:=W.self;obtain⟨M,hk⟩:=H.set K0 (y':=.cells uc) (S0:=(b,true)::S') hl U0 (fun p hp=>by rw[hS];exact nT.subset hp) (show(dI _).Nodup from List.Sublist.nodup (nT.map Prod.fst) nX) W.size W.wf W.same W.dI fun hm db=>by
         refine .cells hb (ba:=b) (cs':=Z4) ?_ (Nat.le_refl _) (h2.bw (T:=fun x=>x=b) H.wf W.same (fun _ h=>h) db hm fun x hx e=>?_)
         ·obtain⟨c0,cF⟩:=bX W.dJ;simp only at cF;rw[lN]at cF;rw[lN,Option.some.injEq,fk.cells.injEq]at*
          obtain⟨_,_,e3,e4⟩:=cF;exact⟨rfl,rfl,e3,e4⟩
         ·subst e;exact n1 ((h3.map Prod.fst).subset hx)
        refine eZ.dr H hp hq eF (go _ _ _ _ _ rfl fN h1 (JN hg (cB hg hg) qX.1 qX.1)) (E3 H (.refl H) M hk (fun _ h=>h) (by rw[W.size];exact Nat.le_refl _) fun b' cs' cp mR=>jx H.wf W.same (K0.apart m _ _ b' hl U0 cp) mR) (.j _)
         (ta H (.refl H) K0 hl (dS U0) W.same) hw
     ·exact hw.elim
    ·exact hw.elim
   ·rename_i m i q
    -- a row of which each cell may name an object
    have row:∀{y:TO} {b f t0 gA ba z:Nat} {es:List (List TV)} {e e1:List TV} {Sq:Ft} {cs:List Value} {S:Nat→Ft},MO X ρ F o c h S→look o m=some y→S m=(f,true)::Sq→ρ m=some (.arr b z es.length)→h.get b=some (.cells cs f t0 gA)→h.dJ b=some (f,b,ba)→ba≤b→X.base≤f→0<z→cs.length=es.length*z→
     (∀e∈es,e.length=z)→(∀e∈es,∀t∈e,mX t=true)→i<es.length→e.length=z→av= .pointer (some ⟨b,i*z+q,none⟩)→cU c ρ F h X.base Sq (es.set i e).flatten cs→dz e q (aE v)=some e1→K .j (eX o m (.b6 z es [(i,e1)])) c (.dr [m])→eZ E X ρ F o c af h p K:=by
     intro y b f t0 gA ba z es e e1 Sq cs S K0 hl hS hb hg hf zU dX hz hlen oM bV hi Nk SP hc gX hw;obtain⟨S1,S2,S3,v1,v2,v3,rfl,rfl,a1,a2,a3⟩:=kU oM hi hc;obtain⟨YJ,SM,h1,h2,h3⟩:=a2.dz gX s7;have e1l:v1.length=i*z:=by
      have h1:=a1.len;obtain⟨e0,he0⟩:∃e0,es[i]? =some e0:=⟨_,List.getElem?_eq_getElem hi⟩;have:=(e7 oM he0).2;rw[Nat.add_mul]at this;rw[←h1,List.length_take];omega
     have Z5:dz (v1++(v2++v3)) (i*z+q) vv.cells.toList=some (v1++(YJ++v3)):=by rw[←e1l];exact E4 h1
     have fN:=eK hf zU (aR hg);have zS:(f,true)∈S m:=by rw[hS];exact List.mem_cons_self
     have qX:=K0.fv m _ f hl (dS zS);have nX:=K0.DZ m _ hl;rw[hS]at nX;obtain⟨n1,n2⟩:=List.nodup_cons.1 nX;have U3:(S1++(SM++S3)).Sublist (S1++(S2++S3)):=(h3.append_right S3).append_left S1;have nT:((f,true)::(S1++(SM++S3))).Sublist ((f,true)::(S1++(S2++S3))):=U3.cons_cons _;have OG:X.base≤b:=by have:=H.wf.le _ _ _ _ _ hg;omega
     have W:=CX (cs':=v1++(YJ++v3)) H.wf hg hf;obtain⟨t',th',lN⟩:=W.self;have e1z:e1.length=z:=by rw[(dv gX).2.1];exact Nk
     have Rr:YJ.length=v2.length:=(dv h1).2.1;obtain⟨M,hk⟩:=H.set K0 (y':=.b6 z es [(i,e1)]) (S0:=(f,true)::(S1++(SM++S3))) hl zS (fun p hp=>by rw[hS];exact nT.subset hp) (show(dI _).Nodup from List.Sublist.nodup (nT.map Prod.fst) nX) W.size W.wf W.same W.dI fun hm db=>by
      refine .b6 hb lN W.dJ (Nat.le_refl _) dX hz (by rw[←hlen];simp[Rr]) oM bV (fun p hp=>?_) ((qf oM hi a1 h2 a3).bw (T:=fun x=>x=f) H.wf W.same (fun _ h=>h) db hm fun x hx e=>?_)
      ·simp only[List.mem_singleton]at hp;subst hp;exact⟨hi,e1z⟩
      ·subst e;exact n1 ((U3.map Prod.fst).subset hx)
     refine eZ.dr H hp hq eF (go _ _ _ _ _ SP fN Z5 (JN hg hf OG dX)) (E3 H (.refl H) M hk (fun _ h=>h) (by rw[W.size];exact Nat.le_refl _) fun b' cs' cp mR=>jx H.wf W.same (K0.apart m _ _ b' hl zS cp) mR) (.j _)
      (ta H (.refl H) K0 hl (dS zS) W.same) hw
    split at hw
    ·rename_i l ue gV;split at hw
     ·rename_i z es hl;obtain⟨e,oM,hw⟩:=hw;split at hw
      ·rename_i e1 gX;obtain⟨F1,Sh,sv⟩:=qm (aE v) H;have H1:=Sh.mem;have uk:=sv l _ gV s7;obtain⟨f1,f2⟩:=wR gV;obtain⟨b,z1,l1,hb,rfl⟩:=uB H1 hl rfl (Sh.bw _ _ ha);obtain⟨S,K1⟩:=H1.ex;have hO:=K1.b9 m _ hl;generalize hS:S m=Sm at hO;cases hO with
       |nil cp hz=>rw[hb]at cp;cases cp
       |arr cp hg hf zU dX hz cO wv CZ kX hF=>
        rename_i f t0 gA ba cs;rw[hb]at cp;cases cp;have hE:ER c ρ F1 h z es cs:=⟨cO,wv,CZ,kX⟩;have fN:=eK hf zU (aR hg);have hi:i<es.length:=(List.getElem?_eq_some_iff.1 oM).1;have Nk:=wv e (List.mem_of_getElem? oM);obtain⟨s1,s2,s3⟩:=dv gX;have Rp:vv.cells.toList.length=l.length:=uk.1.symm;have hle:(i+1)*z≤es.length*z:=Nat.mul_le_mul_right z hi;rw[Nat.add_mul]at hle;obtain⟨uc,C8⟩:=lZ (n:=i*z+q) (l:=cs) (xs:=vv.cells.toList) (by rw[cO,Rp];omega);obtain⟨t1,t2,t3⟩:=dv C8;have zS:(f,true)∈S m:=by rw[hS];exact List.mem_cons_self
        have qX:=K1.fv m _ f hl (dS zS);have OG:X.base≤b:=by
         have:=H1.wf.le _ _ _ _ _ hg;omega
        have W:=CX (cs':=uc) H.wf hg hf;obtain⟨t',th',lN⟩:=W.self;have Z2:ER c ρ F1 h z (es.set i e1) uc:=by
         refine hE.setAt (i:=i) (l:=e1) (fun j=>?_) (by simp) hi (by rw[s2,Nk]) (fun t ht=>?_) t2 (fun j t v q1 q2=>?_) (fun k hk=>?_)
         ·rw[List.getElem?_set];by_cases ej:i=j
          ·subst ej;rw[if_pos rfl,if_pos rfl,if_pos hi]
          ·rw[if_neg ej,if_neg (fun e=>ej e.symm)]
         ·obtain⟨j,hj⟩:=List.getElem?_of_mem ht;rw[s3]at hj;split at hj
          ·exact f1 t (List.mem_of_getElem? hj)
          ·exact CZ e (List.mem_of_getElem? oM) t (List.mem_of_getElem? hj)
         ·rw[s3]at q1;rw[t3]at q2;split at q1
          ·rename_i hj;rw[if_pos ⟨om,om⟩]at q2;exact uk.2 (j - q) t v q1 (by rw[←q2];congr 1;omega)
          ·rename_i hj;rw[if_neg om]at q2;exact kX i j e t v oM q1 q2
         ·rw[t3,if_neg];rw[Nat.add_mul]at hk;omega
        obtain⟨M,hk⟩:=H1.set K1 (y':=.arr z true (es.set i e1)) (S0:=[(f,true)]) hl zS (fun p hp=>by simp only[List.mem_singleton]at hp;subst hp;exact zS) (by simp[dI]) W.size W.wf W.same W.dI fun hm _=>
         OR.Oj (by simp[hb]) lN W.dJ (Nat.le_refl _) dX hz (Z2.mono hm) (fun h=>by cases h)
        refine eZ.dr H hp hq eF (go _ _ _ _ _ rfl fN C8 (JN hg hf OG dX)) (E3 H Sh M hk (fun _ h=>h) (by rw[W.size];exact Nat.le_refl _) fun b' cs' cp mR=>jx H.wf W.same (K1.apart m _ _ b' hl zS (Sh.FF _ cp)) mR) (.j _)
         (ta H Sh K1 hl (dS zS) W.same) hw
      ·exact hw.elim
     ·exact hw.elim
    ·rename_i z es hl gV;obtain⟨e,oM,hw⟩:=hw;split at hw
     ·rename_i e1 gX;obtain⟨b,z1,l1,hb,SP⟩:=uB H hl rfl ha;obtain⟨S,K0⟩:=H.ex;have hO:=K0.b9 m _ hl;generalize hS:S m=Sm at hO;cases hO with
      |nil cp hz=>rw[hb]at cp;cases cp
      |arr cp hg hf zU dX hz cO wv CZ kX hF=>
       rw[hb]at cp;cases cp;have hi:i<es.length:=(List.getElem?_eq_some_iff.1 oM).1;refine row K0 hl hS hb hg hf zU dX hz cO wv (fun e he t ht=>?_) hi (wv e (List.mem_of_getElem? oM)) SP (by rw[yf oM];exact cU.kS (hY cO wv kX)) gX hw;have:=CZ e he t ht;unfold mX;split<;>first|rfl |exact this
     ·exact hw.elim
    ·rename_i z es op hl;obtain⟨b,z1,l1,hb,SP⟩:=uB H hl rfl ha;obtain⟨S,K0⟩:=H.ex;have hO:=K0.b9 m _ hl;generalize hS:S m=Sm at hO;cases hO with
     |gF cp hz=>rw[hb]at cp;cases cp
     |b6 cp hg hf zU dX hz cO wv bV ju kX=>
      rw[hb]at cp;cases cp;unfold JF at hw;split at hw
      ·obtain⟨e,oM,hw⟩:=hw;split at hw
       ·rename_i e1 gX;have hi:i<es.length:=(List.getElem?_eq_some_iff.1 oM).1;exact row K0 hl hS hb hg hf zU dX hz cO wv bV hi (wv e (List.mem_of_getElem? oM)) SP (by rw[yf oM];exact kX) gX hw
       ·exact hw.elim
      ·rename_i j ej;obtain⟨o1,o2⟩:=ju (j,ej) (by simp);by_cases YI:i=j
       ·subst YI;have hw:=hw.1 rfl;simp only at hw;split at hw
        ·rename_i e1 gX;exact row K0 hl hS hb hg hf zU dX hz cO wv bV o1 o2 SP kX gX hw
        ·exact hw.elim
       ·obtain⟨_,_,hw⟩:=hw.2 YI;exact hw.elim
      ·obtain⟨_,_,hw⟩:=hw;exact hw.elim
    ·exact hw.elim
   ·exact hw.elim
def yg (E:Env) (base:Nat) (t:TypeId) (m k v:Value) (h:ae):Option (wi×ae):=(nC E base h t m k v).bind fun h'=>some (.val undef,h')
theorem m8 (H:Mem X ρ F o c h) {F1:Nat→Prop} {o1:Ob} (Sh:po X ρ c h F o F1 o1) {S:Nat→Ft} (K1:MO X ρ F1 o1 c h S) {n:Nat} {y y':TO} {b clock clock':Nat} {ev iP:List MapEntry} {Sq S':Ft} (hl:look o1 n=some y) (hS:S n=(b,true)::Sq) (hg:h.get b=some (.map ev clock))
 (nT:∀p∈S',p∈Sq) (tW:(dI S').Nodup) {x:Value} {v:TV} (hp:aX E af p=none) (hq:bW E af p=none) (eF:br E af p=none) (he:dj E X.base af p h=some (.val x,h.put b (.map iP clock'))) (hv:∀c ρ F h,VR c ρ F h v x)
 (wO:∀h',(∀t v,VR c ρ F1 h t v→VR c ρ F1 h' t v)→(∀b',b'<h.size→¬(hd h b'=b)→h'.get b'=h.get b')→(∀b cs,F1 b→h.rd b=some cs→h'.rd b=some cs)→h'.get b=some (.map iP clock')→(∀x∈dI S',x≠b)→OR c ρ F1 h' X.base n ((b,true)::S') y')
 (hK:K v (eX o1 n y') c (.dr [n])):eZ E X ρ F o c af h p K:=by
 have H1:=Sh.mem;have U0:(b,true)∈S n:=by rw[hS];exact List.mem_cons_self
 have nX:=K1.DZ n _ hl;rw[hS]at nX;obtain⟨n1,n2⟩:=List.nodup_cons.1 nX;have oO:∀x∈dI S',x≠b:=fun x hx e=>by
  subst e;obtain⟨q,hq,e⟩:=List.mem_map.1 hx;exact n1 (List.mem_map.2 ⟨q,nT q hq,e⟩)
 have hdb:hd h b=b:=by simp[hd,hg]
 have eV:∀x,(h.put b (.map iP clock')).get x=if x=b then some (.map iP clock')else h.get x:=fun x=>ae.eM _ _ _ _
 have same:∀x,x<h.size→hd h x≠b→(h.put b (.map iP clock')).get x=h.get x:=fun x _ hx=>by
  rw[eV,if_neg];intro e;subst e;exact hx hdb
 have Wd:∀x,hd (h.put b (.map iP clock')) x=hd h x:=fun x=>by
  by_cases e:x=b
  ·subst e;rw[hdb];unfold hd;rw[eV,if_pos rfl]
  ·unfold hd;rw[eV,if_neg e]
 have GZ:Wf (h.put b (.map iP clock')):=by
  have G0:=H.wf.lt hg;refine⟨fun x hx=>?_,fun x cs f t th hx=>?_⟩
  ·rw[ae.size_put]at hx;rw[eV,if_neg om];exact H.wf.high x hx
  ·rw[eV]at hx;split at hx
   ·cases hx
   ·exact H.wf.le _ _ _ _ _ hx
 obtain⟨M,hk⟩:=H1.set K1 (y':=y') (S0:=(b,true)::S') hl U0 (fun p hp=>by
  rw[hS];rcases List.mem_cons.1 hp with rfl |hp
  ·exact List.mem_cons_self
  ·exact List.mem_cons_of_mem _ (nT p hp)) (List.nodup_cons.2 ⟨fun hx=>oO b hx rfl,tW⟩) (ae.size_put _ _ _) GZ same Wd fun hm db=>
  wO _ hm same db (by rw[eV,if_pos rfl]) oO
 exact eZ.dr H hp hq eF he (E3 H Sh M hk (fun _ h=>h) (by rw[ae.size_put];exact Nat.le_refl _) fun b' cs' cp mR=>jx H.wf same (K1.apart n _ _ b' hl U0 (Sh.FF _ cp)) mR) (hv _ _ _ _)
  (ta H Sh K1 hl (dS U0) same) hK
theorem map_set (H:Mem X ρ F o c h) {F1:Nat→Prop} {o1:Ob} (Sh:po X ρ c h F o F1 o1) {n kn:Nat} {es Z1:List (Value×TV)} {b clock clock':Nat} {ev iP:List MapEntry} (hl:look o1 n=some (.map kn es)) (hb:ρ n=some (.di b)) (hg:h.get b=some (.map ev clock))
 (hE:uF c ρ F1 h kn Z1 iP) (bN:sn iP clock') {x:Value} {v:TV} (hp:aX E af p=none) (hq:bW E af p=none) (eF:br E af p=none) (he:dj E X.base af p h=some (.val x,h.put b (.map iP clock'))) (hv:∀c ρ F h,VR c ρ F h v x)
 (hK:K v (eX o1 n (.map kn Z1)) c (.dr [n])):eZ E X ρ F o c af h p K:=by
 obtain⟨S,K1⟩:=Sh.mem.ex;have hO:=K1.b9 n _ hl;generalize hS:S n=Sm at hO;cases hO with
 |map cp lN zT kX NJ=>
  rw[hb]at cp;cases cp;exact m8 H Sh K1 (S':=[]) hl hS hg (by simp) (by simp[dI]) hp hq eF he hv (fun h' hm same db OH _=>.map hb OH hE.1 (fun i e e' q1 q2=>let⟨r1,r2,r3,r4⟩:=hE.2 i e e' q1 q2;⟨r1,r2,r3,hm _ _ r4⟩) bN) hK
end
section
variable {T E:Env} {X:Cx} {ρ:Gh} {F:Nat→Prop} {o:Ob} {c:Nat} {af:AF} {f:Fr} {h:ae} {p:Oper} {K:OK}
theorem yh {kd:TypeDesc} {k:Value} {n:Nat} (hk:kindOk kd k n=true):∀{es:List (Value×TV)} {bM:List MapEntry} (i:Nat),uF c ρ F h n es bM→
 (Instr.findNow kd k bM i=some none∧(∀v,dC es k v=es++[(k,v)])∧pc es k=es)∨
 ∃j x,j<es.length∧Instr.findNow kd k bM i=some (some (i+j,x))∧(∀v,dC es k v=es.set j (k,v))∧pc es k=es.eraseIdx j
 |[],bM,i,H=>by rw[H.bC];exact .inl ⟨rfl,fun _=>rfl,rfl⟩
 |e::es,bM,i,H=>by
  obtain⟨e',m,rfl,h1,h2,h3,h4,h5⟩:=H.aL;unfold Instr.findNow;rw[h1,jP hk h2.2];cases hq:lV k e.1 with
  |true=>exact .inr ⟨0,e'.val,by simp,rfl,fun v=>by simp[dC,hq],by simp[pc,hq]⟩
  |false=>
   simp only
   rcases yh hk (i+1) h5 with⟨q1,q2,q3⟩|⟨j,x,q0,q1,q2,q3⟩
   ·exact .inl ⟨q1,fun v=>by simp[dC,hq,q2],by simp[pc,hq,q3]⟩
   ·exact .inr ⟨j+1,x,by simp;omega,by rw[q1];congr 3;omega,fun v=>by simp[dC,hq,q2],by simp[pc,hq,q3]⟩
theorem uF.mono {kn c':Nat} {ρ':Gh} {F':Nat→Prop} {h':ae} {es:List (Value×TV)} {ev:List MapEntry} (H:uF c ρ F h kn es ev) (hm:∀t v,VR c ρ F h t v→VR c' ρ' F' h' t v):uF c' ρ' F' h' kn es ev:=
 ⟨H.1,fun i e e' q1 q2=>let⟨r1,r2,r3,r4⟩:=H.2 i e e' q1 q2;⟨r1,r2,r3,hm _ _ r4⟩⟩
theorem uF.wT {kn:Nat} {es:List (Value×TV)} {ev:List MapEntry} (H:uF c ρ F h kn es ev) {k:Value} {v:TV} {x:Value} (hk:0<kn∧bh k=kn) (hf:Eu v=true) (hv:VR c ρ F h v x) (b:Nat):uF c ρ F h kn (es++[(k,v)]) (ev++[{key:=k,val:=x,born:=b}]):=by
 refine⟨by simp[H.1],fun i e e' q1 q2=>?_⟩;by_cases hi:i<es.length
 ·rw[List.getElem?_append_left hi]at q1;rw[List.getElem?_append_left (by rw[←H.1];exact hi)]at q2;exact H.2 i e e' q1 q2
 ·rw[List.getElem?_append_right om]at q1;rw[List.getElem?_append_right (by rw[←H.1];omega),←H.1]at q2;have:i - es.length=0:=by
   rcases Nat.eq_zero_or_pos (i - es.length)with h0|h0
   ·exact h0
   ·rw[List.getElem?_eq_none (by simp;omega)]at q1;cases q1
  rw[this]at q1 q2;simp at q1 q2;subst q1;subst q2;exact⟨rfl,hk,hf,hv⟩
theorem uF.set {kn:Nat} {es:List (Value×TV)} {ev:List MapEntry} (H:uF c ρ F h kn es ev) {k:Value} {v:TV} {x:Value} (hk:0<kn∧bh k=kn) (hf:Eu v=true) (hv:VR c ρ F h v x) (j:Nat):uF c ρ F h kn (es.set j (k,v)) (ev.modify j fun e=>{e with key:=k,val:=x}):=by
 refine⟨by simp[H.1],fun i e e' q1 q2=>?_⟩;rw[List.getElem?_set]at q1;rw[List.getElem?_modify]at q2;by_cases e0:j=i
 ·subst e0;rw[if_pos rfl]at q1;split at q1
  ·cases q1;cases hq:ev[j]? with
   |none=>rw[hq]at q2;simp at q2
   |some a=>rw[hq]at q2;simp at q2;subst q2;exact⟨rfl,hk,hf,hv⟩
  ·cases q1
 ·rw[if_neg e0]at q1;cases hq:ev[i]? with
  |none=>rw[hq]at q2;simp at q2
  |some a=>
   rw[hq]at q2;simp[e0]at q2;subst q2;exact H.2 i e _ q1 hq
theorem uF.erase {kn:Nat} {es:List (Value×TV)} {ev:List MapEntry} (H:uF c ρ F h kn es ev) (j:Nat):uF c ρ F h kn (es.eraseIdx j) (ev.eraseIdx j):=by
 refine⟨by rw[List.length_eraseIdx,List.length_eraseIdx,H.1],fun i e e' q1 q2=>?_⟩;rw[List.getElem?_eraseIdx]at q1 q2;split at q1
 ·rename_i aU;rw[if_pos aU]at q2;exact H.2 _ _ _ q1 q2
 ·rename_i aU;rw[if_neg aU]at q2;exact H.2 _ _ _ q1 q2
theorem sn.wT {ev:List MapEntry} {clock:Nat} (H:sn ev clock) {k v:Value}:sn (ev++[{key:=k,val:=v,born:=clock}]) (clock+1):=by
 refine⟨fun x hx=>?_,?_⟩
 ·rcases List.mem_append.1 hx with hx|hx
  ·have:=H.1 x hx;omega
  ·simp at hx;subst hx;simp
 ·rw[List.map_append,List.nodup_append];refine⟨H.2,by simp,fun a ha b hb=>?_⟩;obtain⟨x,hx,rfl⟩:=List.mem_map.1 ha;simp at hb;subst hb;have:=H.1 x hx;omega
theorem sn.modify {ev:List MapEntry} {clock:Nat} (H:sn ev clock) (j:Nat) {f:MapEntry→MapEntry} (hf:∀e,(f e).born=e.born):sn (ev.modify j f) clock:=by
 have h1:(ev.modify j f).map (·.born)=ev.map (·.born):=by
  apply List.ext_getElem?;intro i;rw[List.getElem?_map,List.getElem?_map,List.getElem?_modify];cases ev[i]? with
  |none=>simp
  |some e=>by_cases h:j=i<;>simp[h,hf]
 refine⟨fun x hx=>?_,by rw[h1];exact H.2⟩;have:x.born∈(ev.modify j f).map (·.born):=List.mem_map.2 ⟨x,hx,rfl⟩;rw[h1]at this;obtain⟨y,hy,e⟩:=List.mem_map.1 this;rw[←e];exact H.1 y hy
theorem sn.erase {ev:List MapEntry} {clock:Nat} (H:sn ev clock) (j:Nat):sn (ev.eraseIdx j) clock:=
 ⟨fun x hx=>H.1 x (List.mem_of_mem_eraseIdx hx),((List.eraseIdx_sublist ev j).map _).nodup H.2⟩
theorem LD {v:TV} {x:Value} (hv:VR c ρ F h v x) (ho:okV v=true):dm v=fH x:=by
 cases hv with
 |j=>simp[okV,zR]at ho
 |c4=>simp[okV,zR]at ho
 |sv=>simp[okV,zR]at ho
 |pv=>simp[okV,zR]at ho
 |s hp=>cases x<;>first|rfl |simp[az]at hp
 |tk _ h1=>cases x<;>first|rfl |simp[Lh]at h1
 |wp _ h1=>cases x<;>first|rfl |simp[YH]at h1
 |_=>rfl
theorem yi {kd:TypeDesc} {k:Value} {n:Nat} {v w:TV} (hk:kindOk kd k n=true):∀{es:List (Value×TV)},dC (dC es k w) k v=dC es k v
 |[]=>by simp[dC,s9 hk]
 |e::es=>by
  cases hq:lV k e.1 with
  |true=>simp[dC,hq,s9 hk]
  |false=>simp[dC,hq,yi hk]
theorem iC.jH {base:Nat} {kd:TypeDesc} {k:Value} {n:Nat} (hk:kindOk kd k n=true) (m9:0<n∧bh k=n) {v:TV} {x:Value} (hv:cU c ρ F h base [] (aE v) x.cells.toList) (ha:dm v=fH x) (b:Nat):∀{M:List (Value×TV)} {ev:List MapEntry} {S:Ft} (i:Nat),iC c ρ F h base n S M ev→
 (Instr.findNow kd k ev i=some none∧iC c ρ F h base n S (dC M k v) (ev++[{key:=k,val:=x,born:=b}]))∨
 ∃j y S',Instr.findNow kd k ev i=some (some (i+j,y))∧iC c ρ F h base n S' (dC M k v) (ev.modify j fun e=>{e with key:=k,val:=x})∧S'.Sublist S
 |[],ev,S,i,H=>by
  cases H;exact .inl ⟨rfl,iC.cons (e:=(k,v)) (S:=[]) (S':=[]) rfl m9 ha hv .nil⟩
 |e::es,ev,S,i,H=>by
  cases H with
  |cons uG jq xm oH hl=>
   rename_i Sa Sb e' m;unfold Instr.findNow;rw[uG,jP hk jq.2];cases hq:lV k e.1 with
   |true=>
    refine .inr ⟨0,e'.val,Sb,rfl,?_,List.sublist_append_right _ _⟩;simp only[dC,hq];exact iC.cons (e:=(k,v)) (S:=[]) rfl m9 ha hv hl
   |false=>
    simp only[dC,hq];rcases iC.jH hk m9 hv ha b (i+1) hl with⟨q1,q2⟩|⟨j,y,S',q1,q2,q3⟩
    ·exact .inl ⟨q1,.cons uG jq xm oH q2⟩
    ·exact .inr ⟨j+1,y,Sa++S',by rw[q1];congr 3;omega,.cons uG jq xm oH q2,q3.append_left _⟩
theorem iC.del {base:Nat} {kd:TypeDesc} {k:Value} {n:Nat} (hk:kindOk kd k n=true):∀{M:List (Value×TV)} {ev:List MapEntry} {S:Ft} (i:Nat),iC c ρ F h base n S M ev→
 (Instr.findNow kd k ev i=some none∧pc M k=M)∨
 ∃j y S',Instr.findNow kd k ev i=some (some (i+j,y))∧iC c ρ F h base n S' (pc M k) (ev.eraseIdx j)∧S'.Sublist S
 |[],ev,S,i,H=>by cases H;exact .inl ⟨rfl,rfl⟩
 |e::es,ev,S,i,H=>by
  cases H with
  |cons uG jq xm oH hl=>
   rename_i Sa Sb e' m;unfold Instr.findNow;rw[uG,jP hk jq.2];cases hq:lV k e.1 with
   |true=>exact .inr ⟨0,e'.val,Sb,rfl,by simp only[pc,hq];exact hl,List.sublist_append_right _ _⟩
   |false=>
    simp only[pc,hq];rcases iC.del hk (i+1) hl with⟨q1,q2⟩|⟨j,y,S',q1,q2,q3⟩
    ·exact .inl ⟨q1,by rw[q2]⟩
    ·exact .inr ⟨j+1,y,Sa++S',by rw[q1];congr 3;omega,.cons uG jq xm oH q2,q3.append_left _⟩
theorem E5 {k:Value} {e:Value×TV}:∀{es:List (Value×TV)},e∈pc es k→e∈es
 |[],h=>by simp[pc]at h
 |a::l,h=>by
  unfold pc at h;split at h
  ·exact List.mem_cons_of_mem _ h
  ·rcases List.mem_cons.1 h with rfl |h
   ·exact List.mem_cons_self
   ·exact List.mem_cons_of_mem _ (E5 h)
theorem Ao (L:ct T E) (H:Mem X ρ F o c h) {t:TypeId} {m k v:TV} {mv kv vv:Value} (hw:rS T t m k v o c K) (hm:VR c ρ F h m mv) (hk:VR c ρ F h k kv) (hv:VR c ρ F h v vv) (hp:aX E af p=none) (hq:bW E af p=none) (eF:br E af p=none)
 (he:dj E X.base af p h=yg E X.base t mv kv vv h):eZ E X ρ F o c af h p K:=by
 unfold rS at hw;split at hw
 ·rename_i kt elem hd;split at hw
  ·rename_i kd An jq;have hkv:=hk.dn.1;subst hkv;split at hw
   ·rename_i n;have Wl:∀{kn},kindOk kd kv kn=true→0<kn∧bh kv=kn:=fun {kn} kx=>by
     unfold kindOk at kx;simp only[Bool.and_eq_true,beq_iff,a7]at kx;exact⟨kx.1.1,kx.2⟩
    have run:∀{kn b clock:Nat} {ev iP:List MapEntry} {Z6:Nat},kindOk kd kv kn=true→mv= .map (some b)→X.base≤b→h.get b=some (.map ev clock)→
     (∃i,Instr.findNow kd kv ev 0=some i∧(match i with|some (i,_)=>iP=(ev.modify i fun e=>{e with key:=kv,val:=vv})∧Z6=clock|none=>iP=ev++[{key:=kv,val:=vv,born:=clock}]∧Z6=clock+1))→
     dj E X.base af p h=some (.val undef,h.put b (.map iP Z6)):=by
     rintro kn b clock ev iP Z6 kx rfl bA hg ⟨i,hi,h2⟩;obtain⟨qa,kE⟩:=jz kx;rw[he];unfold yg nC;rw[L.desc _ _ hd];simp only[Option.bind_some,L.desc _ _ jq];rw[aT.2 bA,qa,kE,hg];simp only[Bool.and_self,bI,hi,Option.bind_some];cases i with
     |none=>obtain⟨rfl,rfl⟩:=h2;rfl
     |some i=>obtain⟨rfl,rfl⟩:=h2;rfl
    -- entries that name objects
    have named:∀{S:Nat→Ft} {y:TO} {kn b clock:Nat} {ev:List MapEntry} {es M:List (Value×TV)} {Sq:Ft},MO X ρ F o c h S→look o n=some y→S n=(b,true)::Sq→ρ n=some (.di b)→h.get b=some (.map ev clock)→sn ev clock→kindOk kd kv kn=true→okV v=true→mv= .map (some b)→
     (∀e∈es,∀t∈aE e.2,mX t=true)→iC c ρ F h X.base kn Sq M ev→dC M kv v=dC es kv v→K .j (eX o n (.fC kn es [(kv,v)])) c (.dr [n])→eZ E X ρ F o c af h p K:=by
     intro S y kn b clock ev es M Sq K0 hl hS hb hg bN kx JW hmv bV hE hMe hw;have nX:=K0.DZ n _ hl;rw[hS]at nX;obtain⟨n1,n2⟩:=List.nodup_cons.1 nX;have bA:X.base≤b:=(K0.fv n _ b hl (by rw[hS];exact List.mem_cons_self)).1;rcases hE.jH kx (Wl kx) (cU.kS (iZ hv JW)) (LD hv JW) clock 0 with⟨q1,q2⟩|⟨j,x,S',q1,q2,q3⟩
     ·rw[hMe]at q2;exact m8 H (.refl H) K0 hl hS hg (fun _ h=>h) n2 hp hq eF (run kx hmv bA hg ⟨_,q1,rfl,rfl⟩) (fun _ _ _ _=>.j _) (fun h' hm same db OH oO=>.fC hb OH bV (q2.bw (T:=fun x=>x=b) H.wf same (fun _ h=>h) db hm oO) bN.wT) hw
     ·rw[hMe]at q2;exact m8 H (.refl H) K0 hl hS hg (fun _ h=>q3.subset h) ((q3.map Prod.fst).nodup n2) hp hq eF (run (iP:=ev.modify j fun e=>{e with key:=kv,val:=vv}) (Z6:=clock) kx hmv bA hg ⟨_,q1,by simp,rfl⟩) (fun _ _ _ _=>.j _) (fun h' hm same db OH oO=>.fC hb OH bV (q2.bw (T:=fun x=>x=b) H.wf same (fun _ h=>h) db hm oO) (bN.modify j fun _=>rfl)) hw
    split at hw
    ·rename_i kn es v' hl Hl;split at hw
     ·rename_i kx;have JW:okV v=true:=by
       cases v<;>simp[N9,db]at Hl<;>rfl
      obtain⟨F1,Sh,sv⟩:=SN H v JW;obtain⟨qJ,gV⟩:=sv v' vv Hl hv;obtain⟨S,K0⟩:=H.ex;have hO:=K0.b9 n _ hl;have RB:=fun x hx=>K0.fv n _ x hl hx;generalize S n=Sm at hO RB;cases hO with
      |map hb hg hlen hc bN=>
       rename_i b clock ev;have hE:uF c ρ F1 h kn es ev:=uF.mono ⟨hlen,hc⟩ Sh.bw;cases hm with
       |mp cp=>
        rw[hb]at cp;cases cp;obtain⟨y1,k1,k2⟩:=Sh.wk n _ hl;have:y1= .map kn es:=by cases y1<;>simp[iO]at k2;obtain⟨rfl,rfl⟩:=k2;rfl
        subst this;have bA:X.base≤b:=(RB b List.mem_cons_self).1;rcases yh kx 0 hE with⟨q1,q2,q3⟩|⟨j,x,q0,q1,q2,q3⟩
        ·refine map_set H Sh k1 hb hg (hE.wT (Wl kx) gV qJ clock) bN.wT hp hq eF (run kx rfl bA hg ⟨_,q1,rfl,rfl⟩) (fun _ _ _ _=>.j _) ?_;rw[q2]at hw;exact hw
        ·refine map_set H Sh k1 hb hg (hE.set (Wl kx) gV qJ j) (bN.modify j fun _=>rfl) hp hq eF (run kx rfl bA hg ⟨_,q1,by simp,rfl⟩) (fun _ _ _ _=>.j _) ?_;rw[q2]at hw;exact hw
     ·exact hw.elim
    ·rename_i kn es hl Hl;split at hw
     ·rename_i RC;simp only[Bool.and_eq_true]at RC;obtain⟨kx,JW⟩:=RC;obtain⟨S,K0⟩:=H.ex;have hO:=K0.b9 n _ hl;generalize hS:S n=Sm at hO;cases hO with
      |map hb hg hlen hc bN=>
       cases hm with
       |mp cp=>
        rw[hb]at cp;cases cp;have s7:=CR.We (base:=X.base) hlen hc;exact named K0 hl hS hb hg bN kx JW rfl (s7.ZL _ _ _ rfl) (iC.sW s7 _ _ _ rfl) rfl hw
     ·exact hw.elim
    ·rename_i kn es hl;split at hw
     ·rename_i RC;simp only[Bool.and_eq_true]at RC;obtain⟨kx,JW⟩:=RC;obtain⟨S,K0⟩:=H.ex;have hO:=K0.b9 n _ hl;generalize hS:S n=Sm at hO;cases hO with
      |fC hb hg bV hc bN=>
       cases hm with
       |mp cp=>
        rw[hb]at cp;cases cp;exact named K0 hl hS hb hg bN kx JW rfl bV hc rfl hw
     ·exact hw.elim
    ·rename_i kn es k' w hl;split at hw
     ·rename_i RC;simp only[Bool.and_eq_true]at RC;obtain⟨kx,JW⟩:=RC;obtain⟨rfl,hw⟩:=hw;obtain⟨S,K0⟩:=H.ex;have hO:=K0.b9 n _ hl;generalize hS:S n=Sm at hO;cases hO with
      |fC hb hg bV hc bN=>
       cases hm with
       |mp cp=>
        rw[hb]at cp;cases cp;exact named K0 hl hS hb hg bN kx JW rfl bV hc (yi kx) hw
     ·exact hw.elim
    ·exact hw.elim
   ·exact hw.elim
  ·exact hw.elim
 ·exact hw.elim
theorem Ie (L:ct T E) (H:Mem X ρ F o c h) {t:TypeId} {m k:TV} {mv kv:Value} (hw:CI T t m k o c K) (hm:VR c ρ F h m mv) (hk:VR c ρ F h k kv) (hp:aX E af p=none) (hq:bW E af p=none) (eF:br E af p=none)
 (he:dj E X.base af p h=(sw E X.base h t mv kv).bind fun r=>some (.val r.1,r.2)):eZ E X ρ F o c af h p K:=by
 have SQ:∀(c:Nat) (ρ:Gh) (F:Nat→Prop) (h:ae),VR c ρ F h (.c4 []) (.tuple #[]):=fun _ _ _ _=>.iB .nil;unfold CI at hw;split at hw
 ·rename_i kt elem hd;split at hw
  ·rename_i kd An n jq;have hkv:=hk.dn.1;subst hkv;have run:∀{kn b clock:Nat} {ev iP:List MapEntry},kindOk kd kv kn=true→mv= .map (some b)→X.base≤b→h.get b=some (.map ev clock)→(∃i,Instr.findNow kd kv ev 0=some i∧iP=(match i with|some (i,_)=>ev.eraseIdx i|none=>ev))→dj E X.base af p h=some (.val (.tuple #[]),h.put b (.map iP clock)):=by
    rintro kn b clock ev iP kx rfl bA hg ⟨i,hi,rfl⟩;obtain⟨qa,kE⟩:=jz kx;rw[he];unfold sw;rw[L.desc _ _ hd];simp only[Option.bind_some,L.desc _ _ jq];rw[aT.2 bA,qa,kE,hg];simp only[Bool.and_self,bI,hi,Option.bind_some];cases i<;>rfl
   obtain⟨S,K0⟩:=H.ex;split at hw
   ·rename_i kn es hl;split at hw
    ·rename_i kx;have hO:=K0.b9 n _ hl;have RB:=fun x hx=>K0.fv n _ x hl hx;generalize S n=Sm at hO RB;cases hO with
     |map hb hg hlen hc bN=>
      rename_i b clock ev;have hE:uF c ρ F h kn es ev:=⟨hlen,hc⟩;cases hm with
      |mp cp=>
       rw[hb]at cp;cases cp;have bA:X.base≤b:=(RB b List.mem_cons_self).1;rcases yh kx 0 hE with⟨q1,q2,q3⟩|⟨j,x,q0,q1,q2,q3⟩
       ·refine map_set H (.refl H) hl hb hg hE bN hp hq eF (run (iP:=ev) kx rfl bA hg ⟨_,q1,rfl⟩) SQ ?_;rw[q3]at hw;exact hw
       ·refine map_set H (.refl H) hl hb hg (hE.erase j) (bN.erase j) hp hq eF (run (iP:=ev.eraseIdx j) kx rfl bA hg ⟨_,q1,by simp⟩) SQ ?_;rw[q3]at hw;exact hw
    ·exact hw.elim
   ·rename_i kn es hl;split at hw
    ·rename_i kx;have hO:=K0.b9 n _ hl;have RB:=fun x hx=>K0.fv n _ x hl hx;have nX:=K0.DZ n _ hl;generalize hS:S n=Sm at hO RB nX;cases hO with
     |fC hb hg bV hc bN=>
      rename_i Sq b clock ev;cases hm with
      |mp cp=>
       rw[hb]at cp;cases cp;have bA:X.base≤b:=(RB b List.mem_cons_self).1;obtain⟨n1,n2⟩:=List.nodup_cons.1 nX;have hE:iC c ρ F h X.base kn Sq es ev:=hc;rcases hE.del kx 0 with⟨q1,q2⟩|⟨j,x,S',q1,q2,q3⟩
       ·rw[q2]at hw;exact m8 H (.refl H) K0 hl hS hg (fun _ h=>h) n2 hp hq eF (run (iP:=ev) kx rfl bA hg ⟨_,q1,rfl⟩) SQ (fun h' hm same db OH oO=>.fC hb OH bV (hE.bw (T:=fun x=>x=b) H.wf same (fun _ h=>h) db hm oO) bN) hw
       ·exact m8 H (.refl H) K0 hl hS hg (fun _ h=>q3.subset h) ((q3.map Prod.fst).nodup n2) hp hq eF (run (iP:=ev.eraseIdx j) kx rfl bA hg ⟨_,q1,by simp⟩) SQ (fun h' hm same db OH oO=>.fC hb OH (fun e he=>bV e (E5 he)) (q2.bw (T:=fun x=>x=b) H.wf same (fun _ h=>h) db hm oO) (bN.erase j)) hw
    ·exact hw.elim
   ·exact hw.elim
  ·exact hw.elim
 ·exact hw.elim
theorem A7 (H:Mem X ρ F o c h) {t:TypeId} {n kn:Nat} {y:TO} {mv:Value} (hl:look o n=some y) (hy:(∃es,y= .map kn es)∨∃es op,y= .fC kn es op) (hw:K (.c4 []) (eX o n (.map kn [])) c (.dr [n])) (hm:VR c ρ F h (.mp n) mv) (hp:aX E af p=none) (hq:bW E af p=none) (eF:br E af p=none)
 (hd:(E.desc t).isSome=true) (he:dj E X.base af p h=((E.desc t).bind fun _=>ru E X.base h t mv).bind fun r=>some (.val r.1,r.2)):eZ E X ρ F o c af h p K:=by
 obtain⟨S,K0⟩:=H.ex;have hO:=K0.b9 n _ hl;have RB:=fun x hx=>K0.fv n _ x hl hx;obtain⟨d,hd⟩:=Option.isSome_iff_exists.1 hd;have main:∀{b clock:Nat} {ev:List MapEntry} {Sq:Ft},S n=(b,true)::Sq→ρ n=some (.di b)→h.get b=some (.map ev clock)→eZ E X ρ F o c af h p K:=by
  intro b clock ev Sq hS hb hg;cases hm with
  |mp cp=>
   rw[hb]at cp;cases cp;have bA:X.base≤b:=(RB b (by rw[hS];exact List.mem_cons_self)).1;refine m8 H (.refl H) K0 (S':=[]) (iP:=[]) (clock':=clock) hl hS hg (by simp) (by simp[dI]) hp hq eF ?_ (fun _ _ _ _=>.iB .nil) (fun h' hm same db OH oO=>.map hb OH rfl (fun i e e' q=>by simp at q) ⟨by simp,by simp⟩) hw;rw[he,hd];unfold ru;simp only[Option.bind_some];rw[aT.2 bA,hg];rfl
 generalize hS:S n=Sm at hO;rcases hy with⟨es,rfl⟩|⟨es,op,rfl⟩
 ·cases hO with
  |map hb hg hlen hc bN=>exact main hS hb hg
 ·cases hO with
  |fC hb hg bV hc bN=>exact main hS hb hg
theorem ER.take {z:Nat} {es:List (List TV)} {cs:List Value} (A:ER c ρ F h z es cs) {i:Nat} (hi:i≤es.length):ER c ρ F h z (es.take i) (cs.take (i*z)):=by
 have hle:i*z≤es.length*z:=Nat.mul_le_mul_right z hi;refine⟨by rw[List.length_take,List.length_take,A.len,Nat.min_eq_left hi,Nat.min_eq_left hle],fun e he=>A.each e (List.mem_of_mem_take he),fun e he=>A.fz e (List.mem_of_mem_take he),fun a b e t v q1 q2 q3=>?_⟩;rw[List.getElem?_take]at q1 q3;split at q1
 ·split at q3
  ·exact A.cell a b e t v q1 q2 q3
  ·cases q3
 ·cases q1
theorem Ig (L:ct T E) (H:Mem X ρ F o c h) {t elem:TypeId} {m i z:Nat} {zv xv:Value} {zs:List TV} {es:List (List TV)} (hd:T.desc t=some (.slice elem)) (hz:T.zero elem=some zv) (hl:look o m=some (.arr z true es)) (jr:my zv=some zs)
 (hc:(zs.all fz&&Nat.beq zs.length z&&zs.all zR)=true) (hw:(es.length≤i→K (.c4 []) o c (.dr [m]))∧(i<es.length→K (.c4 []) (eX o m (.arr z true (es.take i++List.replicate (es.length - i) zs))) c (.dr [m])))
 (hx:VR c ρ F h (.sv m i) xv) (hp:aX E af p=none) (hq:bW E af p=none) (eF:br E af p=none)
 (he:dj E X.base af p h=((E.desc t).bind fun _=>ru E X.base h t xv).bind fun r=>some (.val r.1,r.2)):eZ E X ρ F o c af h p K:=by
 simp only[Bool.and_eq_true,beq_iff]at hc;obtain⟨⟨gV,Lo⟩,gl⟩:=hc;obtain⟨jY,oA⟩:=L.zero _ _ hz;have rF:dF c ρ F h zs zv.cells.toList:=fT oA jr;have nop:∀a cap,xv= .slice a 0 cap→(a=none∨∃b q z1,a=some ⟨b,q,some z1⟩)→es.length≤i→eZ E X ρ F o c af h p K:=by
  rintro a cap rfl ha hle;refine eZ.dr H (v:=.c4 []) (x:=.tuple #[]) hp hq eF ?_ (.refl H) (.iB .nil) (Raw.refl [m]) (hw.1 hle);rw[he,L.desc _ _ hd];rcases ha with rfl |⟨b,q,z1,rfl⟩<;>rfl
 obtain⟨S,K0⟩:=H.ex;have hO:=K0.b9 m _ hl;generalize hS:S m=Sm at hO;cases hx with
 |sv hn h1 ha h0=>
  cases hO with
  |nil hb D2=>
   rcases h0 _ hb with rfl |⟨b,o',z',cap,rfl⟩
   ·exact nop _ _ rfl (.inl rfl) (Nat.zero_le _)
   ·exact nop _ _ rfl (.inr ⟨_,_,_,rfl⟩) (Nat.zero_le _)
  |arr hb hg hf zU dX D2 cO wv CZ kX hF=>
   rename_i b f t0 gA ba cs;obtain⟨q,cap,rfl,hq'⟩:=ha _ _ _ hb;by_cases hi:i<es.length
   ·obtain rfl:=hq' hi;have hE:ER c ρ F h z es cs:=⟨cO,wv,CZ,kX⟩;have fN:=eK hf zU (aR hg);have hR:=ER.replicate rF Lo gV (es.length - i);have hRl:=hR.len;rw[List.length_replicate]at hRl;have hiz:i*z+(es.length - i)*z=es.length*z:=by rw[←Nat.add_mul];congr 1;omega
    obtain⟨uc,C8⟩:=lZ (n:=i*z) (l:=cs) (xs:=aZ zv.cells.toList (es.length - i)) (by rw[cO,hRl];omega);have adm:uc=cs.take (i*z)++aZ zv.cells.toList (es.length - i):=by
     rw[ku C8,List.drop_drop,List.drop_eq_nil_of_le (by rw[cO,hRl];omega),List.append_nil]
    have Z2:ER c ρ F h z (es.take i++List.replicate (es.length - i) zs) uc:=by rw[adm];exact(hE.take (Nat.le_of_lt hi)).append hR
    have zS:(f,true)∈S m:=by rw[hS];exact List.mem_cons_self
    have qX:=K0.fv m _ f hl (dS zS);have OG:X.base≤b:=by have:=H.wf.le _ _ _ _ _ hg;omega
    have W:=CX (cs':=uc) H.wf hg hf;obtain⟨t',th',lN⟩:=W.self;have Jx:(es.take i++List.replicate (es.length - i) zs).length=es.length:=by simp;omega
    obtain⟨M,hk⟩:=H.set K0 (y':=.arr z true (es.take i++List.replicate (es.length - i) zs)) (S0:=[(f,true)]) hl zS (fun p hp=>by simp only[List.mem_singleton]at hp;subst hp;exact zS) (by simp[dI]) W.size W.wf W.same W.dI fun hm _=>
     OR.Oj (by rw[Jx];exact hb) lN W.dJ (Nat.le_refl _) dX D2 (Z2.mono hm) (fun h=>by cases h)
    refine eZ.dr H (v:=.c4 []) (x:=.tuple #[]) hp hq eF ?_ (E3 H (.refl H) M hk (fun _ h=>h) (by rw[W.size];exact Nat.le_refl _) fun b' cs' cp mR=>jx H.wf W.same (K0.apart m _ _ b' hl zS cp) mR) (.iB .nil)
     (ta H (.refl H) K0 hl (dS zS) W.same) (hw.2 hi)
    rw[he,L.desc _ _ hd];unfold ru;simp only[Option.bind_some];have qQ:Nat.beq (es.length - i) 0=false:=by
     cases hbq:Nat.beq (es.length - i) 0 with
     |false=>rfl
     |true=>have:=beq_iff.1 hbq;omega
    rw[qQ];simp only[cond_false,L.desc _ _ hd,Option.bind_some,jY,wS gl rF,bI,fN,C8,JN hg hf OG dX]
   ·exact nop _ _ (by rw[show es.length - i=0 by omega]) (.inr ⟨_,_,_,rfl⟩) om
end
section
variable {T E:Env} {X:Cx} {ρ:Gh} {F:Nat→Prop} {o:Ob} {c:Nat} {af:AF} {f:Fr} {h:ae} {p:Oper} {K:OK}
theorem size_le {k bytes:Nat} (hk:k<1048576) (hb:bytes<1048576):(k+1)*(bytes+1)≤1099511627776:=by
 have h1:(k+1)*(bytes+1)≤1048576*1048576:=Nat.mul_le_mul hk hb;exact h1
theorem Mem.JX (H:Mem X ρ F o c h) {z:Nat} {y:TO} (wO:∀(c:Nat) (ρ:Gh) (F:Nat→Prop) (n:Nat),ρ n=some (.nil z)→OR c ρ F h X.base n [] y):Mem X (cC ρ c (some (.nil z))) F ((c,y)::o) (c+1) h∧∀t v,VR c ρ F h t v→VR (c+1) (cC ρ c (some (.nil z))) F h t v:=by
 obtain⟨S,K⟩:=H.ex
 refine H.change K (fun _=>False) c y [] (Nat.le_refl _) H.wf (fun _ hf=>hf.elim) (fun _ _ _=>rfl) (fun _ _ _ hr=>hr) (fun _ _=>rfl) (fun _ hb=>hb) (fun _ hb hn=>absurd hb hn) om (H.AU _) (H.AV _) (H.AW _)
  (fun m y' bD hl=>?_) (fun y' hl=>?_) (wO _ _ _ _ (aM _ _ _)) (by simp[dI]) (by simp[dI]) (by simp)
 ·rw[aQ,if_neg (fun e=>bD e.symm)]at hl;exact⟨hl,bG _ _ bD,fun _ _ hf=>hf.elim⟩
 ·rw[aQ,if_pos rfl,Option.some.injEq]at hl;exact hl.symm
theorem Mem.Wm (H:Mem X ρ F o c h) {z:Nat} (hz:0<z):Mem X (cC ρ c (some (.nil z))) F ((c,.arr z true [])::o) (c+1) h∧∀t v,VR c ρ F h t v→VR (c+1) (cC ρ c (some (.nil z))) F h t v:=
 H.JX fun _ _ _ _ hn=>.nil hn hz
theorem Mem.U4 (H:Mem X ρ F o c h) {S:Nat→Ft} (K:MO X ρ F o c h S) {m z l b0:Nat} {y y':TO} {S0:Ft} {h':ae} (hl:look o m=some y) (hb:ρ m=some (.arr b0 z l)) (fO:h.size≤h'.size) (GZ:Wf h') (same:∀b,b<h.size→h'.get b=h.get b)
 (db:∀b cs,F b→h.rd b=some cs→h'.rd b=some cs) (nT:∀p∈S0,p∈S m∨p.1=h.size) (tW:(dI S0).Nodup) (aU:∀x∈dI S0,x<h'.size) (fl:Bool) (xn:fl=true→(h'.rd h.size).isSome=true∧hd h' h.size=h.size∧∀x,(x,true)∈S0→h.size≠x) {q:Loc} (_:∀b,q≠ .di b)
 (wO:(∀t v,VR c ρ F h t v→VR (c+1) (cC (cC ρ m none) c (some q)) (fun x=>F x∨(fl=true∧x=h.size)) h' t v)→OR (c+1) (cC (cC ρ m none) c (some q)) (fun x=>F x∨(fl=true∧x=h.size)) h' X.base c S0 y'):
 Mem X (cC (cC ρ m none) c (some q)) (fun x=>F x∨(fl=true∧x=h.size)) ((c,y')::fq o m) (c+1) h'∧∀t v,VR c ρ F h t v→VR (c+1) (cC (cC ρ m none) c (some q)) (fun x=>F x∨(fl=true∧x=h.size)) h' t v:=by
 have hm:=H.lt hl;have fw:∀n,n≠m→n≠c→cC (cC ρ m none) c (some q) n=ρ n:=fun n h1 h2=>by rw[bG _ _ h2,bG _ _ h1]
 have hA:∀n l',n<c→cC (cC ρ m none) c (some q) n=some l'→ρ n=some l':=fun n l' hn h1=>by
  by_cases e:n=m
  ·subst e;rw[bG _ _ om,aM]at h1;cases h1
  ·rwa [fw n e om]at h1
 have hB:∀n b',ρ n=some (.di b')→cC (cC ρ m none) c (some q) n=some (.di b'):=fun n b' hn=>by
  have:=H.names _ _ hn;by_cases e:n=m
  ·subst e;rw[hb]at hn;cases hn
  ·rwa [fw n e om]
 have EH:∀t v,VR c ρ F h t v→VR (c+1) (cC (cC ρ m none) c (some q)) (fun x=>F x∨(fl=true∧x=h.size)) h' t v:=fun t v=>VR.mono om hA hB (fun _ hb=>.inl hb) db;have vB:∀n y1,n≠c→look ((c,y')::fq o m) n=some y1→n≠m∧look o n=some y1:=fun n y bD hy=>by
  rw[aQ,if_neg (fun e=>bD e.symm),dD]at hy;by_cases e:n=m
  ·rw[if_pos e]at hy;cases hy
  ·rw[if_neg e]at hy;exact⟨e,hy⟩
 have ND:∀x∈dI S0,x∈dI (S m)∨x=h.size:=fun x hx=>by
  obtain⟨p,hp,rfl⟩:=List.mem_map.1 hx;rcases nT p hp with h1|e
  ·exact .inl (List.mem_map.2 ⟨p,h1,rfl⟩)
  ·exact .inr e
 refine H.change K (fun _=>False) c y' S0 fO GZ (fun _ hf=>hf.elim) (fun b hb _=>same b hb) db (fun b hb=>by unfold hd;rw[same b hb]) (fun _ hb=>.inl hb) (fun b hb hn=>?_) om hA hB (fun n l' hn=>?_)
  (fun n y' bD hy=>?_) (fun y' hy=>?_) (wO EH) tW (fun x hx=>?_) fun x b hx hb=>?_
 ·rcases hb with hb|⟨hf,rfl⟩
  ·exact absurd hb hn
  ·obtain⟨g1,g2,g3⟩:=xn hf;refine⟨g1,fun n y1 x bD hy hx e=>?_,fun x hx=>by rw[g2];exact g3 x hx,.inr (by rw[g2];exact H.oQ.size)⟩;rw[g2]at e;subst e;have:=(K.fv n y1 _ (vB n y1 bD hy).2 (dS hx)).2.1;omega
 ·by_cases e:n=c
  ·omega
  ·by_cases e2:n=m
   ·omega
   ·rw[fw n e2 e]at hn;have:=H.names _ _ hn;omega
 ·obtain⟨h1,h2⟩:=vB n y' bD hy;exact⟨h2,fw n h1 bD,fun _ _ hf=>hf.elim⟩
 ·rw[aQ,if_pos rfl,Option.some.injEq]at hy;exact hy.symm
 ·rcases ND x hx with h1|rfl
  ·obtain⟨q1,q2,q3⟩:=K.fv m y x hl h1;refine⟨q1,aU x hx,q3,fun n y1 bD hy hh=>?_⟩;obtain⟨h3,h4⟩:=vB n y1 bD hy;exact h3 (K.fu n m y1 _ _ h4 hl hh h1)
  ·refine⟨H.lK,aU _ hx,.inr H.oQ.size,fun n y1 bD hy hh=>?_⟩;obtain⟨h3,h4⟩:=vB n y1 bD hy;have:=(K.fv n y1 _ h4 hh).2.1;omega
 ·rcases nT _ hx with h1|e
  ·exact K.apart m y x b hl h1 hb
  ·simp only at e;subst e;have:=H.wf.JL b;have:=H.Ll hb;omega
theorem OR.named {base m n c':Nat} {ρ':Gh} {S:Ft} {y:TO} (W:Wf h) (H:OR c ρ F h base m S y) (hm:∀t v,VR c ρ F h t v→VR c' ρ' F h t v) (fw:ρ' n=ρ m):OR c' ρ' F h base n S y:=by
 have kk:∀{S:Ft} {l:List TV} {vs:List Value},cU c ρ F h base S l vs→cU c' ρ' F h base S l vs:=fun hc=>hc.bw (T:=fun _=>False) W (fun _ _ _=>rfl) (fun _ h=>h) (fun _ _ _ h=>h) hm (fun _ _ hf=>hf.elim);cases H with
 |cells hb hg ht hc=>exact .cells (fw.trans hb) hg ht (kk hc)
 |map hb hg hl hc bN=>exact .map (fw.trans hb) hg hl (fun i e e' h1 h2=>let⟨q1,q2,q3,q4⟩:=hc i e e' h1 h2;⟨q1,q2,q3,hm _ _ q4⟩) bN
 |nil hb hz=>exact .nil (fw.trans hb) hz
 |arr hb hg hf ht dX hz hl he gV hc hF=>exact .arr (fw.trans hb) hg hf ht dX hz hl he gV (fun i j e t v q1 q2 q3=>hm _ _ (hc i j e t v q1 q2 q3)) hF
 |gF hb hz=>exact .gF (fw.trans hb) hz
 |b6 hb hg hf ht dX hz hl he bV ju hc=>exact .b6 (fw.trans hb) hg hf ht dX hz hl he bV ju (kk hc)
 |fC hb hg bV hc bN=>exact .fC (fw.trans hb) hg bV (hc.bw (T:=fun _=>False) W (fun _ _ _=>rfl) (fun _ h=>h) (fun _ _ _ h=>h) hm (fun _ _ hf=>hf.elim)) bN
 |eE hb hg=>exact .eE (fw.trans hb) hg
theorem Mem.rename (H:Mem X ρ F o c h) {m z:Nat} {y:TO} (hl:look o m=some y) {b l:Nat} (hb:ρ m=some (.arr b z l)):
 Mem X (cC (cC ρ m none) c (some (.arr b z l))) F ((c,y)::fq o m) (c+1) h∧∀t v,VR c ρ F h t v→VR (c+1) (cC (cC ρ m none) c (some (.arr b z l))) F h t v:=by
 obtain⟨S,K⟩:=H.ex;have e:(fun x=>F x∨(false=true∧x=h.size))=F:=by funext x;simp
 have:=H.U4 K (S0:=S m) (y':=y) (q:=.arr b z l) hl hb (Nat.le_refl _) H.wf (fun _ _=>rfl) (fun _ _ _ h=>h) (fun p hp=>.inl hp) (K.DZ m y hl) (fun x hx=>(K.fv m y x hl hx).2.1) false (fun h=>by cases h) (by simp) fun hm=>by
  rw[e]at hm ⊢;exact(K.b9 m y hl).named H.wf hm ((aM _ _ _).trans hb.symm)
 rwa [e]at this
theorem pq (H:Mem X ρ F o c h) {x:TV} {zx n:Nat} {xs:List (List TV)} {op:List (Nat×List TV)} (he:ZG o x=some (zx,xs,op)) (hz:zx=n∨zx=0∧op=[]) (ju:∀p∈op,p.2.all eG=true) {xv:Value} (hx:VR c ρ F h x xv):
 mN xv=some xs.length∧(∀p∈op,p.1<xs.length∧p.2.length=n)∧(∀e∈xs,∀t∈e,fz t=true)∧(xs=[]∨∃new,fb h n xs.length xv=some new∧(op=[]→ER c ρ F h n xs new)∧new.length=xs.length*n∧(∀e∈xs,e.length=n)∧dF c ρ F h (cP xs op).flatten new):=by
 have done:∀{xs:List (List TV)} {new:List Value},ER c ρ F h n xs new→fb h n xs.length xv=some new→mN xv=some xs.length→mN xv=some xs.length∧(∀p∈([]:List (Nat×List TV)),p.1<xs.length∧p.2.length=n)∧(∀e∈xs,∀t∈e,fz t=true)∧(xs=[]∨∃new,fb h n xs.length xv=some new∧(([]:List (Nat×List TV))=[]→ER c ρ F h n xs new)∧new.length=xs.length*n∧(∀e∈xs,e.length=n)∧dF c ρ F h (cP xs []).flatten new):=
  fun E h1 h2=>⟨h2,by simp,E.fz,.inr ⟨_,h1,fun _=>E,E.len,E.each,hY E.len E.each E.cell⟩⟩
 unfold ZG at he;split at he
 ·rename_i m;split at he
  ·rename_i z w es hl;cases he;obtain⟨Sm,hO⟩:=H.b9 hl;cases hx with
   |tk hn kD ha h0=>
    cases hO with
    |nil hb jY=>
     rcases h0 _ hb with rfl |⟨b,o',cs,q1,q2,q3,q4,rfl⟩
     ·exact⟨rfl,by simp,by simp,.inl rfl⟩
     ·exact⟨rfl,by simp,by simp,.inl rfl⟩
    |arr hb hg hf ht dX jY hlen he gV hc hF=>
     rename_i b f t0 gA ba cs;obtain⟨cap,h1,rfl⟩:=ha _ _ _ hb;have SK:zx=n:=by omega
     subst SK;refine done ⟨hlen,he,gV,hc⟩ ?_ rfl;simp only[fb,M.al,eK hf ht (aR hg),Option.bind_some,List.drop_zero,bm];rw[←hlen];simp
  ·rename_i z es Lf hl;split at he
   ·rename_i gJ;cases he;obtain⟨Sm,hO⟩:=H.b9 hl;have gV:∀e∈xs,∀t∈e,fz t=true:=fun e he t ht=>List.all_eq_true.1 (List.all_eq_true.1 gJ e he) t ht;cases hx with
    |tk hn kD ha h0=>
     cases hO with
     |gF hb jY=>
      rcases h0 _ hb with rfl |⟨b,o',cs,q1,q2,q3,q4,rfl⟩
      ·exact⟨rfl,by simp,by simp,.inl rfl⟩
      ·exact⟨rfl,by simp,by simp,.inl rfl⟩
     |b6 hb hg hf ht dX jY hlen he bV adn hc=>
      rename_i b f t0 gA ba cs;obtain⟨cap,h1,rfl⟩:=ha _ _ _ hb;have SK:zx=n:=by omega
      subst SK;have oA:(cP xs op).flatten.all eG=true:=by
       rw[List.all_eq_true];intro t ht;obtain⟨e,h1,h2⟩:=List.mem_flatten.1 ht;have key:∀(op:List (Nat×List TV)),(∀p∈op,p.2.all eG=true)→e∈cP xs op→eG t=true:=by
        intro op
        induction op with
        |nil=>intro _ h1;have:=gV e h1 t h2;cases t<;>first|rfl |simp[fz]at this
        |cons p l ih=>
         intro ju h1;rcases List.mem_or_eq_of_mem_set h1 with h3|rfl
         ·exact ih (fun q hq=>ju q (List.mem_cons_of_mem _ hq)) h3
         ·exact List.all_eq_true.1 (ju p List.mem_cons_self) t h2
       exact key op ju h1
      obtain⟨hV,_⟩:=hc.US (fun t v hv hf=>hv.dp hf) oA;refine⟨rfl,adn,gV,.inr ⟨cs,?_,fun e=>?_,hlen,he,hV⟩⟩
      ·simp only[fb,M.al,eK hf ht (aR hg),Option.bind_some,List.drop_zero,bm];rw[←hlen];simp
      ·subst e;refine⟨hlen,he,gV,fun i j e t v q1 q2 q3=>?_⟩;obtain⟨f1,f2⟩:=e7 he q1;refine hV.2 (i*zx+j) t v ?_ q3;show xs.flatten[i*zx+j]? =some t;have hj:j<zx:=by rw[←he e (List.mem_of_getElem? q1)];exact(List.getElem?_eq_some_iff.1 q2).1
       rw[←f1,List.getElem?_take,if_pos hj,List.getElem?_drop]at q2;exact q2
   ·cases he
  ·cases he
 ·cases he;cases hx with
  |nil h1=>subst h1;exact⟨rfl,by simp,by simp,.inl rfl⟩
  |sl q1 q2 q3 q4 q5 q6 q7 q8 q9 UY=>
   rename_i b oo len cap cs;have SK:zx=n:=by omega
   subst SK;refine done (new:=(cs.drop oo).take (xs.length*zx)) ⟨by simp;rw[←q4]at q7;omega,q8,q9,fun i j e t v r1 r2 r3=>?_⟩ ?_ (by simp[mN,q4])
   ·rw[List.getElem?_take]at r3;split at r3
    ·rw[List.getElem?_drop]at r3;exact UY i j e t v r1 r2 (by rw[←r3];congr 1;omega)
    ·cases r3
   ·simp only[fb,M.al,q2,Option.bind_some,bm,and_true,List.length_drop];rw[←q4]at q7;omega
 ·cases he
theorem ER.gH {z:Nat} {es:List (List TV)} {cs:List Value} (A:ER c ρ F h z es cs) (hz:0<z):cs.all M.gH=true:=by
 rw[List.all_eq_true];intro v hv;obtain⟨k,hk⟩:=List.getElem?_of_mem hv;have Ih:k<cs.length:=(List.getElem?_eq_some_iff.1 hk).1;rw[A.len]at Ih;have hi:k / z<es.length:=by
  rw[Nat.div_lt_iff_lt_mul hz];exact Ih
 obtain⟨e,he⟩:∃e,es[k / z]? =some e:=⟨_,List.getElem?_eq_getElem hi⟩;have UZ:=A.each e (List.mem_of_getElem? he);have hj:k % z<e.length:=by rw[UZ];exact Nat.mod_lt _ hz
 obtain⟨t,ht⟩:∃t,e[k % z]? =some t:=⟨_,List.getElem?_eq_getElem hj⟩;have UP:k / z*z+k % z=k:=by rw[Nat.mul_comm];exact Nat.div_add_mod k z
 have hvr:=A.cell (k / z) (k % z) e t v he ht (by rw[UP];exact hk);have gV:=A.fz e (List.mem_of_getElem? he) t (List.mem_of_getElem? ht);have hoc:zR t=true:=by
  cases t<;>simp[M.fz]at gV<;>rfl
 exact JV hoc hvr
structure C9 (E:Env) (st xt elem n bytes:Nat):Prop where
 sd:E.desc st=some (.slice elem)
 xd:∃e,E.desc xt=some (.slice e)
 size:E.size elem=some n
 bytes:E.bytes elem=some bytes
 zero:∃z,E.zero elem=some z∧z.cells.size=n
theorem yj {base st xt elem n bytes:Nat} (A:C9 E st xt elem n bytes) {s x:Value} (hs:Lh s=true) (Yz:∀l k,s= .slice none l k→l=0∧k=0) (qa:∀b oo sp l k,s= .slice (some ⟨b,oo,sp⟩) l k→sp.isSome) (hx:mN x=some 0):cM E base h st xt s x=some (s,h):=by
 obtain⟨e,Nl⟩:=A.xd;obtain⟨z,Wn,SL⟩:=A.zero;unfold cM;rw[A.sd,Nl];simp only[Option.bind_some,A.size,A.bytes,Wn,hx];simp only[kI,SL,bI];cases s<;>simp[Lh]at hs;rename_i a l k;cases a with
 |none=>obtain⟨rfl,rfl⟩:=Yz l k rfl;simp
 |some a=>
  obtain⟨b,oo,sp⟩:=a;have:=qa b oo sp l k rfl;cases sp with
  |none=>simp at this
  |some q=>simp
theorem SR {base st xt elem n bytes len:Nat} (A:C9 E st xt elem n bytes) {x:Value} {new:List Value} (hx:mN x=some len) (hl:len≠0) (hb:(len+1)*(bytes+1)≤1099511627776) (hf:fb h n len x=some new) (hn:new.length=len*n):
 cM E base h st xt (.slice none 0 0) x=some (fresh h new n len):=by
 obtain⟨e,Nl⟩:=A.xd;obtain⟨z,Wn,SL⟩:=A.zero;unfold cM;rw[A.sd,Nl];simp only[Option.bind_some,A.size,A.bytes,Wn,hx];simp only[kI,SL,bI];simp[EE,hl,aT.2 hb,hf,hn]
theorem E6 {base st xt elem n bytes len b oo sl:Nat} (A:C9 E st xt elem n bytes) {x:Value} {old new:List Value} (hx:mN x=some len) (hl:len≠0) (hb:(sl+len+1)*(bytes+1)≤1099511627776) (hf:fb h n len x=some new) (hn:new.length=len*n)
 (ho:M.al h b oo (sl*n)=some old):cM E base h st xt (.slice (some ⟨b,oo,some n⟩) sl sl) x=some (fresh h (old++new) n (sl+len)):=by
 obtain⟨e,Nl⟩:=A.xd;obtain⟨z,Wn,SL⟩:=A.zero;unfold cM;rw[A.sd,Nl];simp only[Option.bind_some,A.size,A.bytes,Wn,hx];simp only[kI,SL,bI];simp[EE,hl,aT.2 hb,hf,hn,ho]
theorem SU {base st xt elem n bytes len b sl cap f ba:Nat} (A:C9 E st xt elem n bytes) {x:Value} {old new cs:List Value} (hx:mN x=some len) (hl:len≠0) (hb:(sl+len+1)*(bytes+1)≤1099511627776) (hf:fb h n len x=some new) (hn:new.length=len*n)
 (ho:M.al h b 0 (sl*n)=some old) (fp:cap≠sl) (hc:h.cellsOf b=some cs) (mQ:h.dJ b=some (f,b,ba)) (dX:base≤f) (jK:new.all gH=true):
 cM E base h st xt (.slice (some ⟨b,0,some n⟩) sl cap) x=some (.slice (some ⟨h.size,0,some n⟩) (sl+len) (sl+len+1),eW h f (bif Nat.beq (sl*n) cs.length then ba else h.size) (old++new)):=by
 obtain⟨e,Nl⟩:=A.xd;obtain⟨z,Wn,SL⟩:=A.zero;unfold cM;rw[A.sd,Nl];simp only[Option.bind_some,A.size,A.bytes,Wn,hx];simp only[kI,SL,bI];have h1:new.all gH=true:=jK;simp[EE,hl,aT.2 hb,hf,hn,ho,fp,hc,mQ,aT.2 dX,h1];rfl
theorem Mem.flag {n:Nat} {xs:List (List TV)} {o1:Ob} (H:Mem X ρ F ((c,.arr n true xs)::o1) (c+1) h) (w:Bool):∃F',Mem X ρ F' ((c,.arr n w xs)::o1) (c+1) h∧(∀t v,VR (c+1) ρ F h t v→VR (c+1) ρ F' h t v)∧∀b,F b→F' b:=by
 cases w with
 |true=>exact⟨F,H,fun _ _ h=>h,fun _ h=>h⟩
 |false=>
  obtain⟨F',h1,h2,h3,_⟩:=H.share c;refine⟨F',h1.less fun m y hl=>?_,h2,h3⟩;have:iW ((c,TO.arr n true xs)::o1) c=eX ((c,TO.arr n true xs)::o1) c (.arr n false xs):=by
   unfold iW;rw[aQ,if_pos rfl]
  rw[this,eo];rw[aQ]at hl;by_cases e:m=c
  ·subst e;rw[if_pos rfl,aQ,if_pos rfl];rw[if_pos rfl]at hl;simpa using hl
  ·rw[if_neg e,aQ,if_neg (fun e2=>e e2.symm)]
   rwa [if_neg (fun e2=>e e2.symm)]at hl
theorem tc (H:Mem X ρ F o c h) {m:Nat} {y:TO} {l:Option Loc}:∀n yn,look o n=some yn→n∉[m]→(∃y',look ((c,y)::fq o m) n=some y')∧cC (cC ρ m none) c l n=ρ n:=by
 intro n yn hn bD;have nW:n≠m:=by simpa using bD
 have:=H.lt hn;exact⟨⟨yn,by rw[aQ,if_neg om,dD,if_neg nW];exact hn⟩,by rw[bG _ _ om,bG _ _ nW]⟩
theorem Ii {xs:List (List TV)}:∀{op:List (Nat×List TV)} {es:List (List TV)},(∀p∈op,p.1<es.length)→cP (es++xs) op=cP es op++xs∧(cP es op).length=es.length
 |[],_,_=>⟨rfl,rfl⟩
 |p::l,es,h=>by
  obtain⟨a,b⟩:=Ii (xs:=xs) (op:=l) (es:=es) fun q hq=>h q (List.mem_cons_of_mem _ hq);have:=h p List.mem_cons_self;exact⟨by rw[cP,cP,a,List.set_append_left _ _ om],by rw[cP,List.length_set,b]⟩
theorem SV {es xs:List (List TV)} {q:Nat×List TV} {op:List (Nat×List TV)} (h:∀p∈op,p.1<es.length):cP (es++xs) ((es.length+q.1,q.2)::op)=cP es op++cP xs [q]:=by
 obtain⟨a,b⟩:=Ii (xs:=xs) h;rw[cP,a,List.set_append_right _ _ om,b];simp[cP]
theorem dF.Z7 {l:List TV} {m:List Value} (H:dF c ρ F h l m) (ho:∀t∈l,zR t=true):m.all M.gH=true:=wS (List.all_eq_true.2 ho) H
theorem kF (H:Mem X ρ F o c h) {st xt elem:TypeId} {n bytes:Nat} {xs:List (List TV)} {op:List (Nat×List TV)} {sv xv:Value} {F1:Nat→Prop} {o1:Ob} {im:Gh} {y1 y2:TO} {ns:List Nat} (A:C9 E st xt elem n bytes) (qQ:0<n) (hlen:mN xv=some xs.length)
 (kY:xs=[]∨∃new,fb h n xs.length xv=some new∧(op=[]→ER c ρ F h n xs new)∧new.length=xs.length*n∧(∀e∈xs,e.length=n)∧dF c ρ F h (cP xs op).flatten new)
 (fin:∀v h',cM E X.base h st xt sv xv=some (v,h')→dj E X.base af p h=some (.val v,h')) (hp:aX E af p=none) (hq:bW E af p=none) (eF:br E af p=none)
 (M1:Mem X im F1 o1 c h) (k1:∀t v,VR c ρ F h t v→VR c im F1 h t v) (f1:∀b,F b→F1 b) (w1:∀m y,look o m=some y→m∉ns→(∃y',look o1 m=some y')∧im m=ρ m)
 (tX:sv= .slice none 0 0∨∃b oo cs,F b∧h.rd b=some cs∧oo≤cs.length∧sv= .slice (some ⟨b,oo,some n⟩) 0 0) (lU:(xs.length+1)*(bytes+1)≤1099511627776)
 (sP:xs=[]→∀(c:Nat) (ρ:Gh) (F:Nat→Prop) (m:Nat),ρ m=some (.nil n)→OR c ρ F h X.base m [] y1)
 (lO:∀new,(op=[]→ER c im F1 h n xs new)→new.length=xs.length*n→(∀e∈xs,e.length=n)→dF c im F1 h (cP xs op).flatten new→Mem X (cC im c (some (.arr h.size n xs.length))) F1 ((c,y1)::o1) (c+1) (h.push (.cells new h.size h.size 0))∧∀t v,VR c im F1 h t v→VR (c+1) (cC im c (some (.arr h.size n xs.length))) F1 (h.push (.cells new h.size h.size 0)) t v)
 (fl:∀{im:Gh} {F1:Nat→Prop} {h1:ae},Mem X im F1 ((c,y1)::o1) (c+1) h1→∃F',Mem X im F' ((c,y2)::o1) (c+1) h1∧(∀t v,VR (c+1) im F1 h1 t v→VR (c+1) im F' h1 t v)∧∀b,F1 b→F' b)
 (hK:K (.tk c) ((c,y2)::o1) (c+1) (.dr ns)):eZ E X ρ F o c af h p K:=by
 have JY:∀m y,look o m=some y→m≠c:=fun m y hl=>by have:=H.lt hl;omega
 by_cases sH:xs.length=0
 ·have LG:xs=[]:=List.length_eq_zero_iff.1 sH;obtain⟨M2,k2⟩:=M1.JX (y:=y1) (z:=n) (sP LG);obtain⟨F3,M3,k3,f3⟩:=fl M2;have uq:cM E X.base h st xt sv xv=some (sv,h):=by
   refine yj A ?_ ?_ ?_ (by rw[hlen,sH])
   ·rcases tX with rfl |⟨b,oo,cs,_,_,_,rfl⟩<;>rfl
   ·rintro l k e;rcases tX with rfl |⟨b,oo,cs,_,_,_,rfl⟩<;>cases e;exact⟨rfl,rfl⟩
   ·rintro b oo sp l k e;rcases tX with rfl |⟨b,oo,cs,_,_,_,rfl⟩<;>cases e;rfl
  refine eZ.dr H hp hq eF (fin _ _ uq) ⟨M3,fun t x hx=>k3 t x (k2 t x (k1 t x hx)),Nat.le_refl _,fun b hb=>f3 b (f1 b hb),fun _ _ _ hr=>hr⟩ ?_ (fun m y hl hm=>⟨?_,?_,fun b _=>⟨rfl,fun _ hr=>hr⟩⟩) hK
  ·refine .tk om (by rcases tX with rfl |⟨b,oo,cs,_,_,_,rfl⟩<;>rfl) (fun b z len hx=>?_) (fun z hx=>?_)
   ·rw[aM]at hx;cases hx
   ·rw[aM]at hx;cases hx;rcases tX with rfl |⟨b,oo,cs,q1,q2,q3,rfl⟩
    ·exact .inl rfl
    ·exact .inr ⟨b,oo,cs,f3 _ (f1 _ q1),q2,qQ,q3,rfl⟩
  ·rw[aQ,if_neg (JY m y hl).symm];exact(w1 m y hl hm).1
  ·rw[bG _ _ (JY m y hl)];exact(w1 m y hl hm).2
 ·rcases kY with e|⟨new,Wo,hE,zP,Nk,hV⟩
  ·subst e;simp at sH
  ·obtain⟨M2,k2⟩:=lO new (fun e=>(hE e).mono k1) zP Nk (hV.qV k1);obtain⟨F3,M3,k3,f3⟩:=fl M2;have uq:cM E X.base h st xt sv xv=some (fresh h new n xs.length):=by
    rcases tX with rfl |⟨b,oo,cs,_,q2,q3,rfl⟩
    ·exact SR A hlen sH lU Wo zP
    ·have:=E6 (base:=X.base) (sl:=0) (old:=[]) (b:=b) (oo:=oo) A hlen sH (by simpa using lU) Wo zP (by simp[M.al,q2,takeN]);simpa using this
   refine eZ.dr H hp hq eF (fin _ _ uq) ⟨M3,fun t x hx=>k3 t x (k2 t x (k1 t x hx)),by show h.size≤h.size+1;omega,fun b hb=>f3 b (f1 b hb),fun b cs hb hr=>(fI H.wf.le _ (H.Ll hb)).trans hr⟩ ?_ (fun m y hl hm=>⟨?_,?_,fun b hb=>?_⟩) hK
   ·refine .tk om rfl (fun b z len hx=>?_) (fun z hx=>?_)
    ·rw[aM]at hx;cases hx;exact⟨_,om,rfl⟩
    ·rw[aM]at hx;cases hx
   ·rw[aQ,if_neg (JY m y hl).symm];exact(w1 m y hl hm).1
   ·rw[bG _ _ (JY m y hl)];exact(w1 m y hl hm).2
   ·have:=H.yd hl hb;exact⟨by rw[ae.au,if_neg om],fun cs hr=>by rw[fI H.wf.le _ this];exact hr⟩
theorem JZ (H:Mem X ρ F o c h) {st xt elem:TypeId} {z bytes:Nat} {xs:List (List TV)} {xv:Value} {S:Nat→Ft} (K0:MO X ρ F o c h S) {m b f t0 gA ba len cap l0:Nat} {w:Bool} {y y2:TO} {Sq:Ft} {cs new:List Value} (A:C9 E st xt elem z bytes) (hlen:mN xv=some xs.length) (sH:xs.length≠0)
 (fin:∀v h',cM E X.base h st xt (.slice (some ⟨b,0,some z⟩) len cap) xv=some (v,h')→dj E X.base af p h=some (.val v,h')) (hp:aX E af p=none) (hq:bW E af p=none) (eF:br E af p=none)
 (hl:look o m=some y) (hS:S m=(f,w)::Sq) (hb:ρ m=some (.arr b z l0)) (hg:h.get b=some (.cells cs f t0 gA)) (hf:h.dJ b=some (f,b,ba)) (ht:ba≤b) (dX:X.base≤f) (_:0<z) (KU:len*z≤cs.length) (hlw:cs.length=len*z∨w=true) (fp:len≤cap)
 (lU:(len+xs.length+1)*(bytes+1)≤1099511627776) (Wo:fb h z xs.length xv=some new) (zP:new.length=xs.length*z) (jK:new.all gH=true) (hw:w=true∨Sq=[])
 (wO:∀{c':Nat} {ρ':Gh} {F':Nat→Prop} {h':ae} {b' f' t1 zN ud:Nat} {T:Nat→Prop},(∀t v,VR c ρ F h t v→VR c' ρ' F' h' t v)→(∀b,F b→F' b)→(∀b cs,F b→h.rd b=some cs→h'.rd b=some cs)→(∀b,b<h.size→¬T (hd h b)→h'.get b=h.get b)→(∀x∈dI Sq,¬T x)→
  ρ' c=some (.arr b' z (len+xs.length))→h'.get b'=some (.cells (cs.take (len*z)++new) f' t1 zN)→h'.dJ b'=some (f',b',ud)→ud≤b'→X.base≤f'→(w=false→F' b')→OR c' ρ' F' h' X.base c ((f',w)::Sq) y2)
 (hK:K (.tk c) ((c,y2)::fq o m) (c+1) (.dr [m])):eZ E X ρ F o c af h p K:=by
 have fN:=eK hf ht (aR hg);have UL:M.al h b 0 (len*z)=some (cs.take (len*z)):=by
  simp only[M.al,fN,Option.bind_some,List.drop_zero,bm];simp[KU]
 obtain⟨c0,cF⟩:=bX hf;simp only at cF;have zS:f∈dI (S m):=by rw[hS];exact List.mem_cons_self
 have nX:=K0.DZ m _ hl;rw[hS]at nX;obtain⟨n1,n2⟩:=List.nodup_cons.1 nX;by_cases bV:cap=len
 ·subst bV;have uq:=E6 (base:=X.base) A hlen sH lU Wo zP UL;have Wp:(h.push (.cells (cs.take (cap*z)++new) h.size h.size 0)).get h.size=some (.cells (cs.take (cap*z)++new) h.size h.size 0):=by rw[ae.au,if_pos rfl]
  have db:∀b cs',F b→h.rd b=some cs'→(h.push (.cells (cs.take (cap*z)++new) h.size h.size 0)).rd b=some cs':=fun b cs' hb hr=>(fI H.wf.le _ (H.Ll hb)).trans hr;have OI:∀b,b<h.size→(h.push (.cells (cs.take (cap*z)++new) h.size h.size 0)).get b=h.get b:=fun b hb=>by rw[ae.au,if_neg om]
  have ado:∀F3,(∀b,F b→F3 b)→Mem X (cC (cC ρ m none) c (some (.arr h.size z (cap+xs.length)))) F3 ((c,y2)::fq o m) (c+1) (h.push (.cells (cs.take (cap*z)++new) h.size h.size 0))→(∀t x,VR c ρ F h t x→VR (c+1) (cC (cC ρ m none) c (some (.arr h.size z (cap+xs.length)))) F3 (h.push (.cells (cs.take (cap*z)++new) h.size h.size 0)) t x)→eZ E X ρ F o c af h p K:=by
   intro F3 f3 M3 k3;refine eZ.dr H hp hq eF (fin _ _ uq) ⟨M3,k3,by show h.size≤h.size+1;omega,f3,db⟩ ?_ (fun n y DX bD=>?_) hK
   ·refine .tk om rfl (fun b' z' len hx=>?_) (fun z hx=>?_)
    ·rw[aM]at hx;cases hx;exact⟨cap+xs.length+1,om,by simp⟩
    ·rw[aM]at hx;cases hx
   ·obtain⟨q1,q2⟩:=tc H (y:=y2) (l:=some (.arr h.size z (cap+xs.length))) n y DX bD;have aU:=fun b' cp=>H.yd (b:=b') DX cp;exact⟨q1,q2,fun b' cp=>⟨OI b' (aU b' cp),fun cs hr=>(fI H.wf.le _ (aU b' cp)).trans hr⟩⟩
  have adp:Wf (h.push (.cells (cs.take (cap*z)++new) h.size h.size 0)):=H.wf.push fun cs f c8 ba e=>by cases e;exact Nat.le_refl _
  obtain⟨M3,k3⟩:=H.U4 K0 (S0:=(h.size,w)::Sq) (y':=y2) (q:=.arr h.size z (cap+xs.length)) (h':=h.push (.cells (cs.take (cap*z)++new) h.size h.size 0)) hl hb (by rw[ae.size_push];omega) adp OI db (fun p hp=>by
   rcases List.mem_cons.1 hp with rfl |hp
   ·exact .inr rfl
   ·rw[hS];exact .inl (List.mem_cons_of_mem _ hp)) (List.nodup_cons.2 ⟨fun hx=>by
    have:=(K0.fv m _ h.size hl (by rw[hS];exact List.mem_cons_of_mem _ hx)).2.1;omega,n2⟩) (fun x hx=>by
    rw[ae.size_push];rcases List.mem_cons.1 hx with rfl |hx
    ·simp
    ·have:=(K0.fv m _ x hl (by rw[hS];exact List.mem_cons_of_mem _ hx)).2.1;omega) (!w) (fun OJ=>by
    have GZ:w=false:=by simpa using OJ
    subst GZ;have hSq:Sq=[]:=by rcases hw with h|h;cases h;exact h
    subst hSq;exact⟨by rw[eK (cB Wp Wp) (Nat.zero_le _) (aR Wp)];rfl,cb Wp,by simp⟩) (by simp) fun hm=>
   wO (T:=fun _=>False) hm (fun _ h=>.inl h) db (fun b hb _=>OI b hb) (fun _ _ hf=>hf.elim) (aM _ _ _) Wp (cB Wp Wp) (Nat.zero_le _) H.lK (fun h=>.inr ⟨by simp[h],rfl⟩)
  exact ado _ (fun _ h=>.inl h) M3 k3
 ·have uq:=SU (base:=X.base) (cap:=cap) A hlen sH lU Wo zP UL bV (aR hg) hf dX jK;obtain⟨dh,NL⟩:∃t,t=(bif Nat.beq (len*z) cs.length then ba else h.size):=⟨_,rfl⟩;rw[←NL]at uq;have G0:=H.wf.lt hg;have Z8:dh≤h.size:=by cases M8:Nat.beq (len*z) cs.length<;>rw[M8]at NL<;>simp only[cond_true,cond_false]at NL<;>omega
  have Z9:dh=ba∨w=true:=by
   rcases hlw with e|e
   ·left;rw[NL,e,show Nat.beq (len*z) (len*z)=true from beq_iff.2 rfl];rfl
   ·exact .inr e
  have OL:∀x,x<h.size→hd h x≠f→(eW h f dh (cs.take (len*z)++new)).get x=h.get x:=fun x hx SA=>by
   rw[ext_get cF,if_neg om,if_neg];intro e;subst e;exact SA (cb cF)
  have adq:∀x cs',F x→h.rd x=some cs'→(eW h f dh (cs.take (len*z)++new)).rd x=some cs':=fun x cs' hx hr=>by
   rcases Z9 with e|e
   ·rw[e];exact Ol H.wf cF hr
   ·exact jx H.wf OL (K0.apart m _ f x hl (by rw[hS,e];exact List.mem_cons_self) hx) hr
  obtain⟨M2,k2⟩:=H.ZN K0 dh (len':=len+xs.length) (cs':=cs.take (len*z)++new) (y':=y2) hl hS hb hg hf ht Z8 Z9 fun hm same db ur hfc=>
   wO (T:=fun x=>x=f) hm (fun _ h=>.inl h) db same (fun x hx e=>n1 (by subst e;exact hx)) (aM _ _ _) ur hfc Z8 dX (fun hw=>.inr ⟨hw,rfl⟩)
  refine eZ.dr H hp hq eF (fin _ _ uq) ⟨M2,k2,by rw[sY];omega,fun _ h=>.inl h,adq⟩ ?_ (fun n y DX bD=>?_) hK
  ·refine .tk om rfl (fun b' z' len hx=>?_) (fun z hx=>?_)
   ·rw[aM]at hx;cases hx;exact⟨_,om,rfl⟩
   ·rw[aM]at hx;cases hx
  ·obtain⟨q1,q2⟩:=tc H (y:=y2) (l:=some (.arr h.size z (len+xs.length))) n y DX bD;have nW:n≠m:=by simpa using bD
   refine⟨q1,q2,fun b' cp=>?_⟩;obtain⟨aU,hh⟩:=H.C7 K0 DX cp;have aaa:hd h b'≠f:=fun e=>by
    rw[e]at hh;exact nW (K0.fu n m _ _ _ DX hl hh zS)
   exact⟨OL b' aU aaa,fun cs hr=>jx H.wf OL aaa hr⟩
theorem Ij (H:Mem X ρ F o c h) {st xt elem:TypeId} {z bytes:Nat} {xs:List (List TV)} {xv:Value} {S:Nat→Ft} (K0:MO X ρ F o c h S) {m b f t0 gA ba len cap:Nat} {w:Bool} {y y2:TO} {Sq:Ft} {cs new:List Value} (A:C9 E st xt elem z bytes) (hlen:mN xv=some xs.length) (sH:xs.length≠0)
 (fin:∀v h',cM E X.base h st xt (.slice (some ⟨b,0,some z⟩) len cap) xv=some (v,h')→dj E X.base af p h=some (.val v,h')) (hp:aX E af p=none) (hq:bW E af p=none) (eF:br E af p=none)
 (hl:look o m=some y) (hS:S m=(f,w)::Sq) (hb:ρ m=some (.arr b z len)) (hg:h.get b=some (.cells cs f t0 gA)) (hf:h.dJ b=some (f,b,ba)) (ht:ba≤b) (dX:X.base≤f) (hz:0<z) (KU:cs.length=len*z) (fp:len≤cap)
 (lU:(len+xs.length+1)*(bytes+1)≤1099511627776) (Wo:fb h z xs.length xv=some new) (zP:new.length=xs.length*z) (jK:new.all gH=true) (hw:w=true∨Sq=[])
 (wO:∀{c':Nat} {ρ':Gh} {F':Nat→Prop} {h':ae} {b' f' t1 zN ud:Nat} {T:Nat→Prop},(∀t v,VR c ρ F h t v→VR c' ρ' F' h' t v)→(∀b,F b→F' b)→(∀b cs,F b→h.rd b=some cs→h'.rd b=some cs)→(∀b,b<h.size→¬T (hd h b)→h'.get b=h.get b)→(∀x∈dI Sq,¬T x)→
  ρ' c=some (.arr b' z (len+xs.length))→h'.get b'=some (.cells (cs++new) f' t1 zN)→h'.dJ b'=some (f',b',ud)→ud≤b'→X.base≤f'→(w=false→F' b')→OR c' ρ' F' h' X.base c ((f',w)::Sq) y2)
 (hK:K (.tk c) ((c,y2)::fq o m) (c+1) (.dr [m])):eZ E X ρ F o c af h p K:=by
 have e:cs.take (len*z)=cs:=List.take_of_length_le om;exact JZ H K0 A hlen sH fin hp hq eF hl hS hb hg hf ht dX hz om (.inl KU) fp lU Wo zP jK hw (by rw[e];exact wO) hK
theorem E7 (L:ct T E) (H:Mem X ρ F o c h) {st xt:TypeId} {l:Int} {sv:Value} {fl:Bool} (hw:xM T st xt l o c K) (hs:VR c ρ F h (.sl 0 [] fl) sv) (hp:aX E af p=none) (hq:bW E af p=none) (eF:br E af p=none)
 (fin:∀v h',jF E h st xt sv (.int .i64 l)=some (v,h')→dj E X.base af p h=some (.val v,h')):eZ E X ρ F o c af h p K:=by
 have JY:∀m y,look o m=some y→m≠c:=fun m y hl=>by have:=H.lt hl;omega
 have e:sv= .slice none 0 0:=by
  cases hs with
  |nil=>rfl
  |sl q1 q2 q3=>omega
 subst e;unfold xM at hw;split at hw
 ·rename_i elem k hd Nl;split at hw
  ·rename_i n bytes z hn G2 hz;obtain⟨jY,oA⟩:=L.zero _ _ hz;split at hw
   ·rename_i zs hc jr;simp only[Bool.and_eq_true,beq_iff,a7]at hc;obtain⟨⟨lT,rD⟩,Ik⟩:=hc;split at hw
    ·rename_i Rw;obtain⟨⟨b1,b2⟩,hK⟩:=hw;have lU:(l.toNat+1)*(bytes+1)≤1099511627776:=size_le om Ik;have rF:=fT (c:=c) (ρ:=ρ) (F:=F) (h:=h) oA jr;have Lo:zs.length=n:=by have:=rF.1;simp only[Array.length_toList]at this;omega
     have hE:=ER.replicate rF Lo Rw l.toNat
     obtain⟨M2,k2⟩:=H.xS hE rD;have uq:jF E h st xt (.slice none 0 0) (.int .i64 l)=some (fresh h (aZ z.cells.toList l.toNat) n l.toNat):=by
      unfold jF;rw[L.desc _ _ hd,L.desc _ _ Nl];simp only[Option.bind_some,L.size _ _ hn,L.bytes _ _ G2,jY];simp only[kI,lT,bI];rw[show Nat.beq n n=true from beq_iff.2 rfl,show Nat.blt 0 n=true from a7.2 rD,show Nat.blt 0 l.toNat=true from a7.2 om,aT.2 lU];rfl
     rw[List.length_replicate]at M2 k2;refine eZ.dr H hp hq eF (fin _ _ uq) ⟨M2,k2,by show h.size≤h.size+1;omega,fun _ h=>h,fun b cs hb hr=>(fI H.wf.le _ (H.Ll hb)).trans hr⟩ ?_ (fun m y hl hm=>⟨?_,?_,fun b hb=>?_⟩) hK
     ·refine .tk om rfl (fun b z len hx=>?_) (fun z hx=>?_)
      ·rw[aM]at hx;cases hx;exact⟨_,om,rfl⟩
      ·rw[aM]at hx;cases hx
     ·rw[aQ,if_neg (JY m y hl).symm];exact⟨y,hl⟩
     ·rw[bG _ _ (JY m y hl)]
     ·have:=H.yd hl hb;exact⟨by rw[ae.au,if_neg om],fun cs hr=>by rw[fI H.wf.le _ this];exact hr⟩
    ·exact hw.elim
   ·exact hw.elim
  ·exact hw.elim
 ·exact hw.elim
theorem Il (L:ct T E) (H:Mem X ρ F o c h) {st xt:TypeId} {s x:TV} {sv xv:Value} (hw:CG T st xt s x o c K) (hs:VR c ρ F h s sv) (hx:VR c ρ F h x xv) (hp:aX E af p=none) (hq:bW E af p=none) (eF:br E af p=none)
 (fin:∀v h',cM E X.base h st xt sv xv=some (v,h')→dj E X.base af p h=some (.val v,h')):eZ E X ρ F o c af h p K:=by
 have w0:∀m y,look o m=some y→m∉([]:List Nat)→(∃y',look o m=some y')∧ρ m=ρ m:=fun m y hl _=>⟨⟨y,hl⟩,rfl⟩
 -- a slice without elements
 have emp:∀{z n:Nat},z=n∨z=0→VR c ρ F h (.sl z [] true) sv→sv= .slice none 0 0∨∃b oo cs,F b∧h.rd b=some cs∧oo≤cs.length∧sv= .slice (some ⟨b,oo,some n⟩) 0 0:=by
  intro z n hz hs;cases hs with
  |nil=>exact .inl rfl
  |sl q1 q2 q3 q4 q5 q6 q7 q8 q9 UY=>
   have SK:z=n:=by omega
   subst SK;simp at q4;subst q4;rw[q6 rfl];exact .inr ⟨_,_,_,q1,q2,om,rfl⟩
 have flq:∀{y:TO} {o1:Ob} {im:Gh} {F1:Nat→Prop} {h1:ae},Mem X im F1 ((c,y)::o1) (c+1) h1→∃F',Mem X im F' ((c,y)::o1) (c+1) h1∧(∀t v,VR (c+1) im F1 h1 t v→VR (c+1) im F' h1 t v)∧∀b,F1 b→F' b:=
  fun {y o1 im F1 h1} M=>⟨F1,M,fun _ _ h=>h,fun _ h=>h⟩
 have closed:∀{e:List TV},(∀t∈e,fz t=true)→∀t∈e,mX t=true:=fun {e} he t ht=>by
  have:=he t ht;unfold mX;split<;>first|rfl |exact this
 unfold CG at hw;split at hw
 ·rename_i elem aeS hsd Nl;split at hw
  ·rename_i n bytes z0 zx xs hn G2 D2 pj;split at hw
   ·rename_i hc;simp only[Bool.and_eq_true,beq_iff,a7,Bool.or_eq_true]at hc;obtain⟨⟨⟨Wq,qQ⟩,hzx⟩,Ik⟩:=hc;have size:∀{k:Nat},k<1048576→(k+1)*(bytes+1)≤1099511627776:=fun {k} hk=>size_le hk Ik;have A:C9 E st xt elem n bytes:=⟨L.desc _ _ hsd,⟨_,L.desc _ _ Nl⟩,L.size _ _ hn,L.bytes _ _ G2,_,(L.zero _ _ D2).1,Wq⟩;obtain⟨hlen,_,YK,kY⟩:=pq H pj (hzx.imp id fun h=>⟨h,rfl⟩) (by simp) hx
    have Wr:∀{im:Gh} {F1:Nat→Prop} {o1:Ob},Mem X im F1 o1 c h→∀new,(([]:List (Nat×List TV))=[]→ER c im F1 h n xs new)→new.length=xs.length*n→(∀e∈xs,e.length=n)→dF c im F1 h (cP xs []).flatten new→Mem X (cC im c (some (.arr h.size n xs.length))) F1 ((c,.arr n true xs)::o1) (c+1) (h.push (.cells new h.size h.size 0))∧∀t v,VR c im F1 h t v→VR (c+1) (cC im c (some (.arr h.size n xs.length))) F1 (h.push (.cells new h.size h.size 0)) t v:=
     fun M1 new hE _ _ _=>M1.xS (hE rfl) qQ
    split at hw
    ·rename_i z;split at hw
     ·rename_i hz;simp only[Bool.or_eq_true,beq_iff]at hz;obtain⟨lU,hK⟩:=hw;exact kF H A qQ hlen kY fin hp hq eF H (fun _ _ h=>h) (fun _ h=>h) w0 (emp hz hs) (size lU) (fun e c ρ F m hm=>by subst e;exact .nil hm qQ) (Wr H) flq hK
     ·exact hw.elim
    ·rename_i m;split at hw
     ·rename_i z w es hl;split at hw
      ·rename_i hz;rw[beq_iff]at hz;subst hz;obtain⟨OM,hK⟩:=hw;have lU:=size OM;obtain⟨S,K0⟩:=H.ex;have hO:=K0.b9 m _ hl;generalize hS:S m=Sm at hO;have tY:=hO.tk rfl hs;cases hO with
       |nil hb jY=>
        rcases tY with⟨_,_,tX⟩|⟨b,cap,h1,_⟩
        ·obtain⟨M1,k1⟩:=H.gone hl rfl;refine kF H (ns:=[m]) (y1:=.arr z true xs) (y2:=.arr z w xs) A qQ hlen kY fin hp hq eF M1 k1 (fun _ h=>h) (fun n y DX bD=>?_) (tX.imp id fun⟨b,o',cs,q1,q2,q3,q4,q5⟩=>⟨b,o',cs,q1,q2,q4,q5⟩) (by simpa using lU) (fun e c ρ F m hm=>by subst e;exact .nil hm qQ) (Wr M1) (fun M=>M.flag w) (by simpa using hK);have nW:n≠m:=by simpa using bD
         exact⟨⟨y,by rw[dD,if_neg nW];exact DX⟩,bG _ _ nW⟩
        ·rw[hb]at h1;cases h1
       |arr hb hg hf ht dX jY cO oM gV hc hF=>
        rename_i b f t0 gA ba cs;rcases tY with⟨_,h1,_⟩|⟨b',cap,h1,fp,rfl⟩
        ·rw[hb]at h1;cases h1
        ·rw[hb]at h1;cases h1;by_cases sH:xs.length=0
         ·have LG:xs=[]:=List.length_eq_zero_iff.1 sH;subst LG;obtain⟨M2,k2⟩:=H.rename hl hb
          have uq:cM E X.base h st xt (.slice (some ⟨b,0,some z⟩) es.length cap) xv=some (.slice (some ⟨b,0,some z⟩) es.length cap,h):=
           yj A rfl (by rintro l k e;cases e) (by rintro b oo sp l k e;cases e;rfl) hlen
          rw[List.append_nil]at hK;refine eZ.dr H hp hq eF (fin _ _ uq) ⟨M2,k2,Nat.le_refl _,fun _ h=>h,fun _ _ _ hr=>hr⟩ ?_ (fun n y DX bD=>?_) hK
          ·refine .tk om rfl (fun b' z' len hx=>?_) (fun z hx=>?_)
           ·rw[aM]at hx;cases hx;exact⟨_,fp,rfl⟩
           ·rw[aM]at hx;cases hx
          ·obtain⟨q1,q2⟩:=tc H (y:=.arr z w es) (l:=some (.arr b z es.length)) n y DX bD;exact⟨q1,q2,fun b' _=>⟨rfl,fun _ hr=>hr⟩⟩
         ·rcases kY with e|⟨new,lO,hE,zP,Nk,hV⟩
          ·subst e;simp at sH
          ·have hEE:ER c ρ F h z (es++xs) (cs++new):=ER.append ⟨cO,oM,gV,hc⟩ (hE rfl);refine Ij H K0 (y2:=.arr z w (es++xs)) A hlen sH fin hp hq eF hl hS hb hg hf ht dX jY cO fp lU lO zP ((hE rfl).gH jY) (.inr rfl) (fun hm qW db same hT Im lN DW Ws Io Sz=>?_) hK;exact OR.Oj (by rw[List.length_append];exact Im) lN DW Ws Io jY (hEE.mono hm) Sz
      ·exact hw.elim
     ·rename_i z es JG hl;split at hw
      ·rename_i hz;rw[beq_iff]at hz;subst hz;obtain⟨OM,hK⟩:=hw;have lU:=size OM;obtain⟨S,K0⟩:=H.ex;have hO:=K0.b9 m _ hl;generalize hS:S m=Sm at hO;have tY:=hO.tk rfl hs;cases hO with
       |gF hb jY=>
        rcases tY with⟨_,_,tX⟩|⟨b,cap,h1,_⟩
        ·obtain⟨M1,k1⟩:=H.gone hl rfl;refine kF H (ns:=[m]) (y1:=.b6 z xs []) (y2:=.b6 z xs []) A qQ hlen kY fin hp hq eF M1 k1 (fun _ h=>h) (fun n y DX bD=>?_) (tX.imp id fun⟨b,o',cs,q1,q2,q3,q4,q5⟩=>⟨b,o',cs,q1,q2,q4,q5⟩) (by simpa using lU) (fun e c ρ F m hm=>by subst e;exact .gF hm qQ) (fun new hE h1 h2 h3=>?_) flq (by simpa using hK)
         ·have nW:n≠m:=by simpa using bD
          exact⟨⟨y,by rw[dD,if_neg nW];exact DX⟩,bG _ _ nW⟩
         ·exact M1.HR ⟨h1,h2,fun e he=>closed (YK e he),by simp,cU.kS h3⟩ qQ
        ·rw[hb]at h1;cases h1
       |b6 hb hg hf ht dX jY cO oM bV ju hc=>
        rename_i Sq b f t0 gA ba cs;rcases tY with⟨_,h1,_⟩|⟨b',cap,h1,fp,rfl⟩
        ·rw[hb]at h1;cases h1
        ·rw[hb]at h1;cases h1;by_cases sH:xs.length=0
         ·have LG:xs=[]:=List.length_eq_zero_iff.1 sH;subst LG;obtain⟨M2,k2⟩:=H.rename hl hb
          have uq:cM E X.base h st xt (.slice (some ⟨b,0,some z⟩) es.length cap) xv=some (.slice (some ⟨b,0,some z⟩) es.length cap,h):=
           yj A rfl (by rintro l k e;cases e) (by rintro b oo sp l k e;cases e;rfl) hlen
          rw[List.append_nil]at hK;refine eZ.dr H hp hq eF (fin _ _ uq) ⟨M2,k2,Nat.le_refl _,fun _ h=>h,fun _ _ _ hr=>hr⟩ ?_ (fun n y DX bD=>?_) hK
          ·refine .tk om rfl (fun b' z' len hx=>?_) (fun z hx=>?_)
           ·rw[aM]at hx;cases hx;exact⟨_,fp,rfl⟩
           ·rw[aM]at hx;cases hx
          ·obtain⟨q1,q2⟩:=tc H (y:=.b6 z es JG) (l:=some (.arr b z es.length)) n y DX bD;exact⟨q1,q2,fun b' _=>⟨rfl,fun _ hr=>hr⟩⟩
         ·rcases kY with e|⟨new,lO,hE,zP,Nk,hV⟩
          ·subst e;simp at sH
          ·refine Ij H K0 (y2:=.b6 z (es++xs) JG) A hlen sH fin hp hq eF hl hS hb hg hf ht dX jY cO fp lU lO zP ((hE rfl).gH jY) (.inl rfl) (fun hm qW db same hT Im lN DW Ws Io Sz=>?_) hK;refine OR.V9 (by rw[List.length_append];exact Im) lN DW Ws Io jY ⟨by simp[cO,zP,Nat.add_mul],fun e he=>?_,fun e he=>?_,fun p hp=>⟨by have:=(ju p hp).1;simp;omega,(ju p hp).2⟩,?_⟩
           ·rcases List.mem_append.1 he with h1|h1
            ·exact oM e h1
            ·exact Nk e h1
           ·rcases List.mem_append.1 he with h1|h1
            ·exact bV e h1
            ·exact closed (YK e h1)
           ·have:=(hc.bw H.wf same qW db hm hT).join (cU.kS (base:=X.base) (hV.qV hm));rw[List.append_nil]at this;rw[(Ii fun p hp=>(ju p hp).1).1,List.flatten_append];exact this
      ·exact hw.elim
     ·exact hw.elim
    ·rename_i m k;split at hw
     ·rename_i z es hl;split at hw
      ·rename_i hz;rw[beq_iff]at hz;subst hz;obtain⟨⟨YL,OM,LG⟩,hK⟩:=hw;have lU:=size OM;have sH:xs.length≠0:=fun e=>LG (List.length_eq_zero_iff.1 e);obtain⟨S,K0⟩:=H.ex;have hO:=K0.b9 m _ hl;generalize hS:S m=Sm at hO;cases hs with
       |pv G3 kD ha h0=>
       cases hO with
       |nil hb jY=>
        have tX:=h0 _ hb;have Si:k=0:=by simpa using YL
        subst Si;obtain⟨M1,k1⟩:=H.gone hl rfl;refine kF H (ns:=[m]) (y1:=.arr z true xs) (y2:=.arr z true xs) A qQ hlen kY fin hp hq eF M1 k1 (fun _ h=>h) (fun n y hl bD=>?_) (tX.imp id fun⟨b,o',cs,q1,q2,q3,q4,q5⟩=>⟨b,o',cs,q1,q2,q4,q5⟩) (by simpa using lU) (fun e c ρ F m hm=>by subst e;exact .nil hm qQ) (Wr M1) flq (by simpa using hK);have nW:n≠m:=by simpa using bD
        exact⟨⟨y,by rw[dD,if_neg nW];exact hl⟩,bG _ _ nW⟩
       |arr hb hg hf ht dX jY cO oM gV hc hF=>
        rename_i b f t0 gA ba cs;obtain⟨cap,fp,rfl⟩:=ha _ _ _ hb;rcases kY with e|⟨new,lO,hE,zP,Nk,hV⟩
        ·exact absurd e LG
        ·have hkz:k*z≤cs.length:=by rw[cO];exact Nat.mul_le_mul_right _ YL
         have hEE:ER c ρ F h z (es.take k++xs) (cs.take (k*z)++new):=ER.append (ER.take ⟨cO,oM,gV,hc⟩ YL) (hE rfl);refine JZ H K0 (y2:=.arr z true (es.take k++xs)) A hlen sH fin hp hq eF hl hS hb hg hf ht dX jY hkz (.inr rfl) fp lU lO zP ((hE rfl).gH jY) (.inl rfl) (fun hm qW db same hT Im lN DW Ws Io Sz=>?_) hK;exact OR.Oj (by rw[List.length_append,List.length_take,Nat.min_eq_left YL];exact Im) lN DW Ws Io jY (hEE.mono hm) Sz
      ·exact hw.elim
     ·exact hw.elim
    ·exact hw.elim
   ·exact hw.elim
  ·rename_i n bytes z0 zx xs q hn G2 D2 pj;split at hw
   ·rename_i hc;simp only[Bool.and_eq_true,beq_iff,a7]at hc;obtain⟨⟨⟨⟨Wq,qQ⟩,rfl⟩,Ik⟩,oA,ads⟩:=hc;have size:∀{k:Nat},k<1048576→(k+1)*(bytes+1)≤1099511627776:=fun {k} hk=>size_le hk Ik;have A:C9 E st xt elem zx bytes:=⟨L.desc _ _ hsd,⟨_,L.desc _ _ Nl⟩,L.size _ _ hn,L.bytes _ _ G2,_,(L.zero _ _ D2).1,Wq⟩;obtain⟨hlen,aac,YK,kY⟩:=pq H pj (.inl rfl) (by simpa using oA) hx;obtain⟨o1,o2⟩:=aac q (by simp);have sH:xs.length≠0:=by omega
    have aad:∀{im:Gh} {F1:Nat→Prop} {o1:Ob},Mem X im F1 o1 c h→∀new,([q]=[]→ER c im F1 h zx xs new)→new.length=xs.length*zx→(∀e∈xs,e.length=zx)→dF c im F1 h (cP xs [q]).flatten new→Mem X (cC im c (some (.arr h.size zx xs.length))) F1 ((c,.b6 zx xs [q])::o1) (c+1) (h.push (.cells new h.size h.size 0))∧∀t v,VR c im F1 h t v→VR (c+1) (cC im c (some (.arr h.size zx xs.length))) F1 (h.push (.cells new h.size h.size 0)) t v:=
     fun M1 new _ h1 h2 h3=>M1.HR ⟨h1,h2,fun e he=>closed (YK e he),aac,cU.kS h3⟩ qQ
    have aae:∀{new:List Value},dF c ρ F h (cP xs [q]).flatten new→new.length=xs.length*zx→new.all gH=true:=by
     intro new hV _;refine dF.Z7 hV fun t ht=>?_;obtain⟨e,h1,h2⟩:=List.mem_flatten.1 ht;rcases List.mem_or_eq_of_mem_set (show e∈xs.set q.1 q.2 from h1)with h3|rfl
     ·have:=YK e h3 t h2;cases t<;>first|rfl |simp[fz]at this
     ·exact List.all_eq_true.1 ads t h2
    -- to an array that is there
    have main:∀{es:List (List TV)} {JG:List (Nat×List TV)} {Sq:Ft} {S:Nat→Ft} {b f t0 gA ba m cap:Nat} {cs:List Value} {y:TO},MO X ρ F o c h S→look o m=some y→S m=(f,true)::Sq→ρ m=some (.arr b zx es.length)→h.get b=some (.cells cs f t0 gA)→h.dJ b=some (f,b,ba)→ba≤b→X.base≤f→cs.length=es.length*zx→es.length≤cap→sv= .slice (some ⟨b,0,some zx⟩) es.length cap→
     (∀e∈es,e.length=zx)→(∀e∈es,∀t∈e,mX t=true)→(∀p∈JG,p.1<es.length∧p.2.length=zx)→cU c ρ F h X.base Sq (cP es JG).flatten cs→es.length+xs.length<1048576→K (.tk c) ((c,.b6 zx (es++xs) ((es.length+q.1,q.2)::JG))::fq o m) (c+1) (.dr [m])→eZ E X ρ F o c af h p K:=by
     intro es JG Sq S b f t0 gA ba m cap cs y K0 hl hS hb hg hf ht dX cO fp tX oM bV ju hc lU hK;subst tX;rcases kY with e|⟨new,lO,_,zP,Nk,hV⟩
     ·subst e;simp at sH
     ·refine Ij H K0 (y2:=.b6 zx (es++xs) ((es.length+q.1,q.2)::JG)) A hlen sH fin hp hq eF hl hS hb hg hf ht dX qQ cO fp (size lU) lO zP (aae hV zP) (.inl rfl) (fun hm qW db same hT Im lN DW Ws Io Sz=>?_) hK;refine OR.V9 (by rw[List.length_append];exact Im) lN DW Ws Io qQ ⟨by simp[cO,zP,Nat.add_mul],fun e he=>?_,fun e he=>?_,fun r hr=>?_,?_⟩
      ·rcases List.mem_append.1 he with h1|h1
       ·exact oM e h1
       ·exact Nk e h1
      ·rcases List.mem_append.1 he with h1|h1
       ·exact bV e h1
       ·exact closed (YK e h1)
      ·rcases List.mem_cons.1 hr with rfl |hr
       ·exact⟨by simp;omega,o2⟩
       ·have:=ju r hr;exact⟨by simp;omega,this.2⟩
      ·have:=(hc.bw H.wf same qW db hm hT).join (cU.kS (base:=X.base) (hV.qV hm));rw[List.append_nil]at this;rw[SV fun p hp=>(ju p hp).1,List.flatten_append];exact this
    split at hw
    ·rename_i z;split at hw
     ·rename_i hz;simp only[Bool.or_eq_true,beq_iff]at hz;obtain⟨lU,hK⟩:=hw;exact kF H A qQ hlen kY fin hp hq eF H (fun _ _ h=>h) (fun _ h=>h) w0 (emp hz hs) (size lU) (fun e=>by subst e;simp at sH) (aad H) flq hK
     ·exact hw.elim
    ·rename_i m;have J0:∀{y:TO},look o m=some y→Ai y=true→EV y=0→Lp y=zx→(sv= .slice none 0 0∨∃b o cs,F b∧h.rd b=some cs∧0<Lp y∧o≤cs.length∧sv= .slice (some ⟨b,o,some (Lp y)⟩) 0 0)→xs.length<1048576→K (.tk c) ((c,.b6 zx xs [q])::fq o m) (c+1) (.dr [m])→eZ E X ρ F o c af h p K:=by
      intro y hl hy h0 hz tX lU hK;obtain⟨M1,k1⟩:=H.gone hl hy;refine kF H (ns:=[m]) (y1:=.b6 zx xs [q]) (y2:=.b6 zx xs [q]) A qQ hlen kY fin hp hq eF M1 k1 (fun _ h=>h) (fun n y DX bD=>?_) (tX.imp id fun⟨b,o',cs,q1,q2,q3,q4,q5⟩=>⟨b,o',cs,q1,q2,q4,by rw[←hz];exact q5⟩) (size lU) (fun e=>by subst e;simp at sH) (aad M1) flq hK;have nW:n≠m:=by simpa using bD
      exact⟨⟨y,by rw[dD,if_neg nW];exact DX⟩,bG _ _ nW⟩
     have ON:wK 0 [q]=[q]:=by simp[wK]
     split at hw
     ·rename_i z es hl;split at hw
      ·rename_i hz;rw[beq_iff]at hz;subst hz;obtain⟨lU,hK⟩:=hw;obtain⟨S,K0⟩:=H.ex;have hO:=K0.b9 m _ hl;generalize hS:S m=Sm at hO;have tY:=hO.tk rfl hs;cases hO with
       |nil hb jY=>
        rcases tY with⟨h0,_,tX⟩|⟨b,cap,h1,_⟩
        ·exact J0 hl rfl h0 rfl tX (by simpa using lU) (by simpa[ON]using hK)
        ·rw[hb]at h1;cases h1
       |arr hb hg hf ht dX jY cO oM gV hc hF=>
        rcases tY with⟨_,h1,_⟩|⟨b',cap,h1,fp,tX⟩
        ·rw[hb]at h1;cases h1
        ·rw[hb]at h1;cases h1;exact main (JG:=[]) K0 hl hS hb hg hf ht dX cO fp tX oM (fun e he=>closed (gV e he)) (by simp) (cU.kS (hY cO oM hc)) lU hK
      ·exact hw.elim
     ·rename_i z es JG hl;split at hw
      ·rename_i hz;rw[beq_iff]at hz;subst hz;obtain⟨lU,hK⟩:=hw;obtain⟨S,K0⟩:=H.ex;have hO:=K0.b9 m _ hl;generalize hS:S m=Sm at hO;have tY:=hO.tk rfl hs;cases hO with
       |gF hb jY=>
        rcases tY with⟨h0,_,tX⟩|⟨b,cap,h1,_⟩
        ·exact J0 hl rfl h0 rfl tX (by simpa using lU) (by simpa[ON]using hK)
        ·rw[hb]at h1;cases h1
       |b6 hb hg hf ht dX jY cO oM bV ju hc=>
        rcases tY with⟨_,h1,_⟩|⟨b',cap,h1,fp,tX⟩
        ·rw[hb]at h1;cases h1
        ·rw[hb]at h1;cases h1;exact main K0 hl hS hb hg hf ht dX cO fp tX oM bV ju hc lU hK
      ·exact hw.elim
     ·exact hw.elim
    ·exact hw.elim
   ·exact hw.elim
  ·exact hw.elim
 ·exact hw.elim
end
section
variable {T E:Env} {X:Cx} {ρ:Gh} {F:Nat→Prop} {o:Ob} {c:Nat} {af:AF} {f:Fr} {h:ae} {p:Oper} {K:OK}
theorem mE:∀{ids:List (Option Nat)} {o:Ob} {n:Nat},(∀k:Nat,ids[k]? ≠some (some n))→look (kq ids o) n=look o n
 |[],o,n,_=>rfl
 |none::l,o,n,h=>mE (ids:=l) fun k=>by simpa using h (k+1)
 |some m::l,o,n,h=>by
  simp only[kq];rw[mE (ids:=l) fun k=>by simpa using h (k+1),dD,if_neg];intro e;subst e;exact h 0 rfl
theorem uI:∀{ids:List (Option Nat)} {n:Nat},n∉nS ids→∀k:Nat,ids[k]? ≠some (some n)
 |[],n,_,k=>by simp
 |none::l,n,h,k=>by
  cases k with
  |zero=>simp
  |succ k=>simpa using uI (ids:=l) h k
 |some m::l,n,h,k=>by
  simp only[nS,List.mem_cons,not_or]at h;cases k with
  |zero=>simp;exact fun e=>h.1 e.symm
  |succ k=>simpa using uI (ids:=l) h.2 k
theorem vE:∀(sh:List Nat) (o:Ob) (n:Nat) (y:TO),look o n=some y→∃y',look (M.cH sh o) n=some y'∧iO y y'
 |[],o,n,y,h=>⟨y,h,iO.refl _⟩
 |m::sh,o,n,y,h=>by
  obtain⟨y1,h1,h2⟩:=pk o m n y h;obtain⟨y2,h3,h4⟩:=vE sh _ n y1 h1;exact⟨y2,h3,h2.trans h4⟩
theorem jQ (H:Mem X ρ F o c h) (sh:List Nat):∃F',po X ρ c h F o F' (M.cH sh o):=by
 obtain⟨F',h1,h2,h3⟩:=H.cH sh;exact⟨F',h1,h2,h3,vE sh o⟩
theorem vF:∀{U:List Nat} {o:Ob} {n:Nat},n∉U→look (vA U o) n=look o n
 |[],o,n,_=>rfl
 |m::l,o,n,h=>by
  simp only[List.mem_cons,not_or]at h;simp only[vA];rw[vF h.2,dD,if_neg h.1]
theorem OO (NX:HY E X) (H:Mem X ρ F o c h) {g:FuncId} {args:List TV} {b7:List Value} {st:Bool} (bN:st=true→x7 E g) (hw:iU st (VC E) g args o c K) (ha:dF c ρ F h args b7) (hp:aX E af p=none) (hq:bW E af p=none) (eF:br E af p=none)
 (he:dj E X.base af p h=some (.enter g b7,h)):eZ E X ρ F o c af h p K:=by
 obtain⟨sh,ids,U,JJ,o0,R,hvc,⟨iT,hO,hi⟩,hK⟩:=hw;simp only[Bool.and_eq_true]at hi;obtain⟨hi,hU⟩:=hi;obtain⟨F1,Sh⟩:=jQ H sh;have H1:=Sh.mem;obtain⟨S,K1⟩:=H1.ex;obtain⟨S1,Ns,D⟩:=hO.told H1 K1 hi hU;obtain⟨hand,OP⟩:=H1.hand K1 D;have Wt:=EJ (zf:=HV o0) H1 _ _ _ iT (ha.qV Sh.bw);obtain⟨n0,v,h',ρ',F',r,o',c',gY,hR,MC,hr⟩:=hvc X.base _ F1 h S1 b7 (NX.now H1) hand OP Wt;obtain⟨MM,k1,k2,k3⟩:=H1.merge K1 hi D MC;have fO:h.size≤h'.size:=MC.oQ.size;have SW:Raw ρ o h (qK ids c ρ ρ') (HQ (back ids c) o'++vA U (kq ids (cH sh o))) h' (nS ids++U):=fun n y hl bD=>by
  simp only[List.mem_append,not_or]at bD;have hn:=uI bD.1;have G3:=H.lt hl;obtain⟨y1,q1,q2⟩:=Sh.wk n y hl;have Lk:=k3 n y1 q1 hn bD.2;refine⟨⟨y1,?_⟩,wP hn G3,fun b hb=>?_⟩
  ·rw[jN];split
   ·rename_i y3 h3;obtain⟨k,y4,e1,_,_⟩:=uy (fun k k'=>xY hi) h3;exfalso;unfold back at e1;split at e1
    ·rename_i m hm;subst e1;exact hn k hm
    ·omega
   ·rw[vF bD.2,mE hn];exact q1
  ·obtain⟨G0,hh⟩:=H1.C7 K1 q1 hb;have Z3:¬mD S1 o0 (hd h b):=Lk _ hh;have hg:=MC.oQ.bw b G0 Z3;refine⟨hg,fun cs hr=>?_⟩;obtain⟨r,a1,a2,a3⟩:=rd_some hr;obtain⟨f1,t1,zN,qG⟩:=dK a3;obtain⟨cr,qH⟩:=bX a1;obtain⟨uc,p1,p2,xj⟩:=dO a1;rw[qG]at xj;cases xj;have vo:=MC.oQ.bw r.1 (H.wf.lt qH) (by
    have:hd h r.1=hd h b:=by rw[cb qH,cb qG]
    show¬mD S1 o0 (hd h r.1);rw[this];exact Z3)
   exact eK (cB (hg.trans qG) (vo.trans qH)) a2 (aR (hg.trans qG))
 refine⟨n0,⟨v,h',.dr h h'⟩,r.mB (back ids c),_,_,_,F',V5 st o0 (nS ids++U),fun n hn=>?_,hK r o' c' hR,⟨MM,fun t x hx=>k1 t x (Sh.bw t x hx),fO,fun b hb=>MC.F0 b (Sh.FF b hb),fun b cs hb fN=>(MC.oQ.db b (Sh.FF b hb)).trans fN⟩,k2 _ _ hr,?_⟩
 ·unfold dW;rw[hp,hq,eF,he];simp only
  rw[Oq hn _ _ _ _ gY];rfl
 ·unfold V5;split
  ·rename_i hs;exact .oJ SW (bN rfl _ _ _ _ _ _ gY)
  ·split
   ·rename_i Ch;rw[Ch]at SW;exact .oK SW fun b hb=>MC.oQ.bw b hb fun⟨k,y,q,_⟩=>by simp[look]at q
   ·exact .dr SW
end
end Go.M
