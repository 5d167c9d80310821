/-
  Part 8 of the library that the proof leans on.
-/
import Derived.Test.YteoljjhhdgplnaaGreatDoorL7
namespace Go.M
open Go
section
variable {T E:Env} {X:Cx} {ρ:Gh} {F:Nat→Prop} {o:Ob} {c:Nat} {af:AF} {f:Fr} {h:ab} {p:Oper} {K:OK}
theorem eV.dp (_:Mem X ρ F o c h) {v:TV} {x:Value} {h':ab} {ρ':Gh} {F':Nat→Prop} {o':Ob} {c':Nat} {ns:List Nat} (hp:aI E af p=none) (hq:bG E af p=none) (ha:bc E af p=none)
 (he:c7 E X.base af p h=some (.val x,h')) (hN:Nx X ρ F o c h ρ' F' o' c' h') (hv:VR c' ρ' F' h' v x) (hr:Raw ρ o h ρ' o' h' ns) (hK:K v o' c' (.dp ns)):eV E X ρ F o c af h p K:=by
 refine⟨0,⟨x,h',.dp h h'⟩,v,o',c',ρ',F',.dp ns,fun n _=>?_,hK,hN,hv,.dp hr⟩;unfold eL;rw[hp,hq,ha,he]
theorem sn (H:Mem X ρ F o c h) {F1:Nat→Prop} {o1:Ob} (Sh:oW X ρ c h F o F1 o1) {S:Nat→Ft} (K1:MO X ρ F1 o1 c h S) {m:Nat} {y y':TO} {h':ab} (hl:look o1 m=some y) {x:Nat} (hhm:x∈dk (S m))
 (same:∀z,z<h.size→hd h z≠x→h'.get z=h.get z):Raw ρ o h ρ (eU o1 m y') h' [m]:=by
 intro n yn hn bj;have nv:n≠m:=by simpa using bj
 obtain⟨y1,k1,k2⟩:=Sh.wk n yn hn;refine⟨⟨y1,by rw[ew,if_neg nv];exact k1⟩,rfl,fun b hb=>?_⟩;obtain⟨q1,q2⟩:=Sh.mem.BC K1 k1 hb;have XB:hd h b≠x:=fun e=>by
  rw[e]at q2;exact nv (K1.eY n m y1 y _ k1 hl q2 hhm)
 exact⟨same b q1 XB,fun cs hr=>jl H.wf same XB hr⟩
theorem Dq (_:Mem X ρ F o c h) {F1:Nat→Prop} {o1:Ob} (S:oW X ρ c h F o F1 o1) {ρ':Gh} {F2:Nat→Prop} {o2:Ob} {c2:Nat} {h':ab} (M:Mem X ρ' F2 o2 c2 h') (hk:∀t x,VR c ρ F1 h t x→VR c2 ρ' F2 h' t x) (hF:∀b,F1 b→F2 b)
 (fG:h.size≤h'.size) (cX:∀b cs,F b→h.rd b=some cs→h'.rd b=some cs):Nx X ρ F o c h ρ' F2 o2 c2 h':=
 ⟨M,fun t x hx=>hk t x (S.bk t x hx),fG,fun b hb=>hF b (S.FF b hb),cX⟩
theorem HK {t:TV} {x:Value} (ho:yD t=true) (hv:VR c ρ F h t x):fq x=true:=by
 cases hv with
 |s hp=>cases x<;>simp[ay]at hp<;>rfl
 |tk hn pF=>cases x<;>simp[Ja]at pF;rfl
 |wp hn pF=>cases x<;>simp[VW]at pF;rfl
 |j=>simp[yD]at ho
 |agg=>simp[yD]at ho
 |cY=>simp[yD]at ho
 |sv=>simp[yD]at ho
 |pv=>simp[yD]at ho
 |_=>rfl
theorem vz:∀{l:List TV} {m:List Value},l.all yD=true→dH c ρ F h l m→m.all fq=true
 |[],m,_,H=>by rw[H.bK];rfl
 |t::l,m,ho,H=>by
  simp only[List.all_cons,Bool.and_eq_true]at ho;obtain⟨v,m',rfl,h1,h2⟩:=H.aQ;simp only[List.all_cons,Bool.and_eq_true];exact⟨HK ho.1 h1,vz ho.2 h2⟩
def Me (E:Env) (base:Nat) (t:TypeId) (a v:Value) (h:ab):Option (lI×ab):=(E.size t).bind fun n=>(iR a).bind fun p=>
      bC (Nat.beq v.cells.size n&&v.cells.toList.all fq)<|(h.rd p.1).bind fun cs=>(cZ cs p.2 v.cells.toList).bind fun cs'=>(h.wr base p.1 cs').bind fun h'=>some (.val undef,h')
theorem Dr {α:Type} {v1 v2 v3 V2 xs:List α} {p:Nat} (h:cZ v2 p xs=some V2):cZ (v1++(v2++v3)) (v1.length+p) xs=some (v1++(V2++v3)):=by
 obtain⟨s1,s2,s3⟩:=dq h;obtain⟨r,hr⟩:=lx (n:=v1.length+p) (l:=v1++(v2++v3)) (xs:=xs) (by simp;omega);rw[hr]
 congr 1
 rw[j8 hr,j8 h];rw[List.take_length_add_append,List.drop_length_add_append,List.take_append_of_le_length om,List.drop_append_of_le_length om,List.drop_append_of_le_length (by rw[List.length_drop];omega)];simp[List.append_assoc]
theorem cI.cZ {base:Nat} {S:Ft} {l xs r:List TV} {m ys:List Value} {p:Nat} (H:cI c ρ F h base S l m) (hs:M.cZ l p xs=some r) (hx:dH c ρ F h xs ys):∃m' S',M.cZ m p ys=some m'∧cI c ρ F h base S' r m'∧S'.Sublist S:=by
 obtain⟨s1,s2,s3⟩:=dq hs;have hlen:=H.len;obtain⟨m',hm⟩:=lx (n:=p) (l:=m) (xs:=ys) (by rw[←hx.1,←hlen];exact s1);obtain⟨S1,S2,S3,rfl,a1,a2,a3⟩:=H.part p xs.length;refine⟨m',S1++S3,hm,?_,(List.sublist_append_right S2 S3).append_left S1⟩;rw[j8 hs,j8 hm,←hx.1];exact a1.join ((cI.kC (base:=base) hx).join a3)
theorem w7 {α:Type} {l:List α} {i:Nat} {e:α} (he:l[i]? =some e):l.set i e=l:=by
 refine List.ext_getElem? fun k=>?_;rw[List.getElem?_set];by_cases ek:i=k
 ·subst ek;rw[if_pos rfl,if_pos (List.getElem?_eq_some_iff.1 he).1,he]
 ·rw[if_neg ek]
theorem Js (L:ck T E) (H:Mem X ρ F o c h) {t:TypeId} {a v:TV} {av vv:Value} (hw:Fm T t a v o c K) (ha:VR c ρ F h a av) (hv:VR c ρ F h v vv) (hp:aI E af p=none) (hq:bG E af p=none) (eC:bc E af p=none)
 (he:c7 E X.base af p h=Me E X.base t av vv h):eV E X ρ F o c af h p K:=by
 unfold Fm at hw;split at hw
 ·exact hw.elim
 ·rename_i n hn;split at hw
  ·exact hw.elim
  ·rename_i hc;simp only[Bool.and_eq_true,beq_iff]at hc;obtain⟨⟨HL,hlen⟩,kr⟩:=hc;have sj:=iZ hv HL;have kA:=vz kr sj;have fG:vv.cells.size=n:=by have:=sj.1;simp only[Array.length_toList]at this;omega
   have go:∀b q cs cs' h',av= .pointer (some ⟨b,q,none⟩)→h.rd b=some cs→cZ cs q vv.cells.toList=some cs'→h.wr X.base b cs'=some h'→c7 E X.base af p h=some (.val undef,h'):=by
    rintro b q cs cs' h' rfl h1 h2 h3;rw[he];unfold Me;simp only[L.size _ _ hn,Option.bind_some,iR,fG,kA,h1,h2,h3,bC];simp
   split at hw
   ·rename_i m q;split at hw
    ·rename_i cs hl;split at hw
     ·rename_i ta fH;obtain⟨S,K0⟩:=H.ex;have hO:=K0.b8 m _ hl;generalize hS:S m=Sm at hO;cases hO with
      |cells hb hg nW hc=>
       rename_i Sq b aO csv;cases ha with
       |ptr bL=>
        rw[hb]at bL;cases bL;have fW:=dO (bH hg hg) nW (az hg);obtain⟨XC,S',h1,h2,h3⟩:=hc.cZ fH sj;have RT:(b,true)∈S m:=by rw[hS];exact List.mem_cons_self
        have qj:=K0.eQ m _ b hl (dU RT);have nw:=K0.Bq m _ hl;rw[hS]at nw;obtain⟨n1,n2⟩:=List.nodup_cons.1 nw;have jB:((b,true)::S').Sublist ((b,true)::Sq):=h3.cons_cons _;have W:=Bt (cs':=XC) H.wf hg (bH hg hg);obtain⟨t',Y7,km⟩:=W.self;obtain⟨M,hk⟩:=H.set K0 (y':=.cells ta) (S0:=(b,true)::S') hl RT (fun p hp=>by rw[hS];exact jB.subset hp) (show(dk _).Nodup from List.Sublist.nodup (jB.map Prod.fst) nw) W.size W.wf W.same W.dk fun hm cX=>by
         refine .cells hb (aO:=b) (cs':=XC) ?_ (Nat.le_refl _) (h2.bk (T:=fun x=>x=b) H.wf W.same (fun _ h=>h) cX hm fun x hx e=>?_)
         ·obtain⟨c0,bP⟩:=bI W.dA;simp only at bP;rw[km]at bP;rw[km,Option.some.injEq,e8.cells.injEq]at*
          obtain⟨_,_,e3,e4⟩:=bP;exact⟨rfl,rfl,e3,e4⟩
         ·subst e;exact n1 ((h3.map Prod.fst).subset hx)
        refine eV.dp H hp hq eC (go _ _ _ _ _ rfl fW h1 (HB hg (bH hg hg) qj.1 qj.1)) (Dq H (.refl H) M hk (fun _ h=>h) (by rw[W.size];exact Nat.le_refl _) fun b' cs' bL ku=>jl H.wf W.same (K0.apart m _ _ b' hl RT bL) ku) (.j _)
         (sn H (.refl H) K0 hl (dU RT) W.same) hw
     ·exact hw.elim
    ·exact hw.elim
   ·rename_i m i q
    -- a row of which each cell may name an object
    have row:∀{y:TO} {b f t0 eX aO z:Nat} {es:List (List TV)} {e e1:List TV} {Sq:Ft} {cs:List Value} {S:Nat→Ft},MO X ρ F o c h S→look o m=some y→S m=(f,true)::Sq→ρ m=some (.arr b z es.length)→h.get b=some (.cells cs f t0 eX)→h.dA b=some (f,b,aO)→aO≤b→X.base≤f→0<z→cs.length=es.length*z→
     (∀e∈es,e.length=z)→(∀e∈es,∀t∈e,lZ t=true)→i<es.length→e.length=z→av= .pointer (some ⟨b,i*z+q,none⟩)→cI c ρ F h X.base Sq (es.set i e).flatten cs→cZ e q (aA v)=some e1→K .j (eU o m (.bV z es [(i,e1)])) c (.dp [m])→eV E X ρ F o c af h p K:=by
     intro y b f t0 eX aO z es e e1 Sq cs S K0 hl hS hb hg hf nW dS hz hlen lS bU hi KS V3 hc fH hw;obtain⟨S1,S2,S3,v1,v2,v3,rfl,rfl,a1,a2,a3⟩:=gW lS hi hc;obtain⟨V2,PL,h1,h2,h3⟩:=a2.cZ fH sj;have e1l:v1.length=i*z:=by
      have h1:=a1.len;obtain⟨e0,he0⟩:∃e0,es[i]? =some e0:=⟨_,List.getElem?_eq_getElem hi⟩;have:=(eZ lS he0).2;rw[Nat.add_mul]at this;rw[←h1,List.length_take];omega
     have XD:cZ (v1++(v2++v3)) (i*z+q) vv.cells.toList=some (v1++(V2++v3)):=by rw[←e1l];exact Dr h1
     have fW:=dO hf nW (az hg);have yE:(f,true)∈S m:=by rw[hS];exact List.mem_cons_self
     have qj:=K0.eQ m _ f hl (dU yE);have nw:=K0.Bq m _ hl;rw[hS]at nw;obtain⟨n1,n2⟩:=List.nodup_cons.1 nw;have RU:(S1++(PL++S3)).Sublist (S1++(S2++S3)):=(h3.append_right S3).append_left S1;have jB:((f,true)::(S1++(PL++S3))).Sublist ((f,true)::(S1++(S2++S3))):=RU.cons_cons _;have Mf:X.base≤b:=by have:=H.wf.le _ _ _ _ _ hg;omega
     have W:=Bt (cs':=v1++(V2++v3)) H.wf hg hf;obtain⟨t',Y7,km⟩:=W.self;have e1z:e1.length=z:=by rw[(dq fH).2.1];exact KS
     have sY:V2.length=v2.length:=(dq h1).2.1;obtain⟨M,hk⟩:=H.set K0 (y':=.bV z es [(i,e1)]) (S0:=(f,true)::(S1++(PL++S3))) hl yE (fun p hp=>by rw[hS];exact jB.subset hp) (show(dk _).Nodup from List.Sublist.nodup (jB.map Prod.fst) nw) W.size W.wf W.same W.dk fun hm cX=>by
      refine .bV hb km W.dA (Nat.le_refl _) dS hz (by rw[←hlen];simp[sY]) lS bU (fun p hp=>?_) ((kf lS hi a1 h2 a3).bk (T:=fun x=>x=f) H.wf W.same (fun _ h=>h) cX hm fun x hx e=>?_)
      ·simp only[List.mem_singleton]at hp;subst hp;exact⟨hi,e1z⟩
      ·subst e;exact n1 ((RU.map Prod.fst).subset hx)
     refine eV.dp H hp hq eC (go _ _ _ _ _ V3 fW XD (HB hg hf Mf dS)) (Dq H (.refl H) M hk (fun _ h=>h) (by rw[W.size];exact Nat.le_refl _) fun b' cs' bL ku=>jl H.wf W.same (K0.apart m _ _ b' hl yE bL) ku) (.j _)
      (sn H (.refl H) K0 hl (dU yE) W.same) hw
    split at hw
    ·rename_i l vo gU;split at hw
     ·rename_i z es hl;obtain⟨e,lS,hw⟩:=hw;split at hw
      ·rename_i e1 fH;obtain⟨F1,Sh,sv⟩:=pM (aA v) H;have H1:=Sh.mem;have CH:=sv l _ gU sj;obtain⟨f1,f2⟩:=vy gU;obtain⟨b,z1,l1,hb,rfl⟩:=tI H1 hl rfl (Sh.bk _ _ ha);obtain⟨S,K1⟩:=H1.ex;have hO:=K1.b8 m _ hl;generalize hS:S m=Sm at hO;cases hO with
       |nil bL hz=>rw[hb]at bL;cases bL
       |arr bL hg hf nW dS hz cE vf yU l4 hF=>
        rename_i f t0 eX aO cs;rw[hb]at bL;cases bL;have hE:ER c ρ F1 h z es cs:=⟨cE,vf,yU,l4⟩;have fW:=dO hf nW (az hg);have hi:i<es.length:=(List.getElem?_eq_some_iff.1 lS).1;have KS:=vf e (List.mem_of_getElem? lS);obtain⟨s1,s2,s3⟩:=dq fH;have Ry:vv.cells.toList.length=l.length:=CH.1.symm;have hle:(i+1)*z≤es.length*z:=Nat.mul_le_mul_right z hi;rw[Nat.add_mul]at hle;obtain⟨ta,BD⟩:=lx (n:=i*z+q) (l:=cs) (xs:=vv.cells.toList) (by rw[cE,Ry];omega);obtain⟨t1,t2,t3⟩:=dq BD;have yE:(f,true)∈S m:=by rw[hS];exact List.mem_cons_self
        have qj:=K1.eQ m _ f hl (dU yE);have Mf:X.base≤b:=by
         have:=H1.wf.le _ _ _ _ _ hg;omega
        have W:=Bt (cs':=ta) H.wf hg hf;obtain⟨t',Y7,km⟩:=W.self;have XA:ER c ρ F1 h z (es.set i e1) ta:=by
         refine hE.setAt (i:=i) (l:=e1) (fun j=>?_) (by simp) hi (by rw[s2,KS]) (fun t ht=>?_) t2 (fun j t v q1 q2=>?_) (fun k hk=>?_)
         ·rw[List.getElem?_set];by_cases ej:i=j
          ·subst ej;rw[if_pos rfl,if_pos rfl,if_pos hi]
          ·rw[if_neg ej,if_neg (fun e=>ej e.symm)]
         ·obtain⟨j,hj⟩:=List.getElem?_of_mem ht;rw[s3]at hj;split at hj
          ·exact f1 t (List.mem_of_getElem? hj)
          ·exact yU e (List.mem_of_getElem? lS) t (List.mem_of_getElem? hj)
         ·rw[s3]at q1;rw[t3]at q2;split at q1
          ·rename_i hj;rw[if_pos ⟨om,om⟩]at q2;exact CH.2 (j - q) t v q1 (by rw[←q2];congr 1;omega)
          ·rename_i hj;rw[if_neg om]at q2;exact l4 i j e t v lS q1 q2
         ·rw[t3,if_neg];rw[Nat.add_mul]at hk;omega
        obtain⟨M,hk⟩:=H1.set K1 (y':=.arr z true (es.set i e1)) (S0:=[(f,true)]) hl yE (fun p hp=>by simp only[List.mem_singleton]at hp;subst hp;exact yE) (by simp[dk]) W.size W.wf W.same W.dk fun hm _=>
         OR.LU (by simp[hb]) km W.dA (Nat.le_refl _) dS hz (XA.mono hm) (fun h=>by cases h)
        refine eV.dp H hp hq eC (go _ _ _ _ _ rfl fW BD (HB hg hf Mf dS)) (Dq H Sh M hk (fun _ h=>h) (by rw[W.size];exact Nat.le_refl _) fun b' cs' bL ku=>jl H.wf W.same (K1.apart m _ _ b' hl yE (Sh.FF _ bL)) ku) (.j _)
         (sn H Sh K1 hl (dU yE) W.same) hw
      ·exact hw.elim
     ·exact hw.elim
    ·rename_i z es hl gU;obtain⟨e,lS,hw⟩:=hw;split at hw
     ·rename_i e1 fH;obtain⟨b,z1,l1,hb,V3⟩:=tI H hl rfl ha;obtain⟨S,K0⟩:=H.ex;have hO:=K0.b8 m _ hl;generalize hS:S m=Sm at hO;cases hO with
      |nil bL hz=>rw[hb]at bL;cases bL
      |arr bL hg hf nW dS hz cE vf yU l4 hF=>
       rw[hb]at bL;cases bL;have hi:i<es.length:=(List.getElem?_eq_some_iff.1 lS).1;refine row K0 hl hS hb hg hf nW dS hz cE vf (fun e he t ht=>?_) hi (vf e (List.mem_of_getElem? lS)) V3 (by rw[w7 lS];exact cI.kC (gY cE vf l4)) fH hw;have:=yU e he t ht;unfold lZ;split<;>first|rfl |exact this
     ·exact hw.elim
    ·rename_i z es op hl;obtain⟨b,z1,l1,hb,V3⟩:=tI H hl rfl ha;obtain⟨S,K0⟩:=H.ex;have hO:=K0.b8 m _ hl;generalize hS:S m=Sm at hO;cases hO with
     |gq bL hz=>rw[hb]at bL;cases bL
     |bV bL hg hf nW dS hz cE vf bU jK l4=>
      rw[hb]at bL;cases bL;unfold Hk at hw;split at hw
      ·obtain⟨e,lS,hw⟩:=hw;split at hw
       ·rename_i e1 fH;have hi:i<es.length:=(List.getElem?_eq_some_iff.1 lS).1;exact row K0 hl hS hb hg hf nW dS hz cE vf bU hi (vf e (List.mem_of_getElem? lS)) V3 (by rw[w7 lS];exact l4) fH hw
       ·exact hw.elim
      ·rename_i j ej;obtain⟨o1,o2⟩:=jK (j,ej) (by simp);by_cases V1:i=j
       ·subst V1;have hw:=hw.1 rfl;simp only at hw;split at hw
        ·rename_i e1 fH;exact row K0 hl hS hb hg hf nW dS hz cE vf bU o1 o2 V3 l4 fH hw
        ·exact hw.elim
       ·obtain⟨_,_,hw⟩:=hw.2 V1;exact hw.elim
      ·obtain⟨_,_,hw⟩:=hw;exact hw.elim
    ·exact hw.elim
   ·exact hw.elim
def w8 (E:Env) (base:Nat) (t:TypeId) (m k v:Value) (h:ab):Option (lI×ab):=(mV E base h t m k v).bind fun h'=>some (.val undef,h')
theorem mz (H:Mem X ρ F o c h) {F1:Nat→Prop} {o1:Ob} (Sh:oW X ρ c h F o F1 o1) {S:Nat→Ft} (K1:MO X ρ F1 o1 c h S) {n:Nat} {y y':TO} {b clock clock':Nat} {ev iP:List MapEntry} {Sq S':Ft} (hl:look o1 n=some y) (hS:S n=(b,true)::Sq) (hg:h.get b=some (.map ev clock))
 (jB:∀p∈S',p∈Sq) (lq:(dk S').Nodup) {x:Value} {v:TV} (hp:aI E af p=none) (hq:bG E af p=none) (eC:bc E af p=none) (he:c7 E X.base af p h=some (.val x,h.put b (.map iP clock'))) (hv:∀c ρ F h,VR c ρ F h v x)
 (uI:∀h',(∀t v,VR c ρ F1 h t v→VR c ρ F1 h' t v)→(∀b',b'<h.size→¬(hd h b'=b)→h'.get b'=h.get b')→(∀b cs,F1 b→h.rd b=some cs→h'.rd b=some cs)→h'.get b=some (.map iP clock')→(∀x∈dk S',x≠b)→OR c ρ F1 h' X.base n ((b,true)::S') y')
 (hK:K v (eU o1 n y') c (.dp [n])):eV E X ρ F o c af h p K:=by
 have H1:=Sh.mem;have RT:(b,true)∈S n:=by rw[hS];exact List.mem_cons_self
 have nw:=K1.Bq n _ hl;rw[hS]at nw;obtain⟨n1,n2⟩:=List.nodup_cons.1 nw;have oi:∀x∈dk S',x≠b:=fun x hx e=>by
  subst e;obtain⟨q,hq,e⟩:=List.mem_map.1 hx;exact n1 (List.mem_map.2 ⟨q,jB q hq,e⟩)
 have hdb:hd h b=b:=by simp[hd,hg]
 have eH:∀x,(h.put b (.map iP clock')).get x=if x=b then some (.map iP clock')else h.get x:=fun x=>ab.bE _ _ _ _
 have same:∀x,x<h.size→hd h x≠b→(h.put b (.map iP clock')).get x=h.get x:=fun x _ hx=>by
  rw[eH,if_neg];intro e;subst e;exact hx hdb
 have TK:∀x,hd (h.put b (.map iP clock')) x=hd h x:=fun x=>by
  by_cases e:x=b
  ·subst e;rw[hdb];unfold hd;rw[eH,if_pos rfl]
  ·unfold hd;rw[eH,if_neg e]
 have G4:Wf (h.put b (.map iP clock')):=by
  have K9:=H.wf.lt hg;refine⟨fun x hx=>?_,fun x cs f t th hx=>?_⟩
  ·rw[ab.size_put]at hx;rw[eH,if_neg om];exact H.wf.high x hx
  ·rw[eH]at hx;split at hx
   ·cases hx
   ·exact H.wf.le _ _ _ _ _ hx
 obtain⟨M,hk⟩:=H1.set K1 (y':=y') (S0:=(b,true)::S') hl RT (fun p hp=>by
  rw[hS];rcases List.mem_cons.1 hp with rfl |hp
  ·exact List.mem_cons_self
  ·exact List.mem_cons_of_mem _ (jB p hp)) (List.nodup_cons.2 ⟨fun hx=>oi b hx rfl,lq⟩) (ab.size_put _ _ _) G4 same TK fun hm cX=>
  uI _ hm same cX (by rw[eH,if_pos rfl]) oi
 exact eV.dp H hp hq eC he (Dq H Sh M hk (fun _ h=>h) (by rw[ab.size_put];exact Nat.le_refl _) fun b' cs' bL ku=>jl H.wf same (K1.apart n _ _ b' hl RT (Sh.FF _ bL)) ku) (hv _ _ _ _)
  (sn H Sh K1 hl (dU RT) same) hK
theorem map_set (H:Mem X ρ F o c h) {F1:Nat→Prop} {o1:Ob} (Sh:oW X ρ c h F o F1 o1) {n kn:Nat} {es Xz:List (Value×TV)} {b clock clock':Nat} {ev iP:List MapEntry} (hl:look o1 n=some (.map kn es)) (hb:ρ n=some (.dw b)) (hg:h.get b=some (.map ev clock))
 (hE:tM c ρ F1 h kn Xz iP) (ct:uH iP clock') {x:Value} {v:TV} (hp:aI E af p=none) (hq:bG E af p=none) (eC:bc E af p=none) (he:c7 E X.base af p h=some (.val x,h.put b (.map iP clock'))) (hv:∀c ρ F h,VR c ρ F h v x)
 (hK:K v (eU o1 n (.map kn Xz)) c (.dp [n])):eV E X ρ F o c af h p K:=by
 obtain⟨S,K1⟩:=Sh.mem.ex;have hO:=K1.b8 n _ hl;generalize hS:S n=Sm at hO;cases hO with
 |map bL km sf l4 Lg=>
  rw[hb]at bL;cases bL;exact mz H Sh K1 (S':=[]) hl hS hg (by simp) (by simp[dk]) hp hq eC he hv (fun h' hm same cX Mg _=>.map hb Mg hE.1 (fun i e e' q1 q2=>let⟨r1,r2,r3,r4⟩:=hE.2 i e e' q1 q2;⟨r1,r2,r3,hm _ _ r4⟩) ct) hK
end
section
variable {T E:Env} {X:Cx} {ρ:Gh} {F:Nat→Prop} {o:Ob} {c:Nat} {af:AF} {f:Fr} {h:ab} {p:Oper} {K:OK}
theorem w9 {kd:TypeDesc} {k:Value} {n:Nat} (hk:kindOk kd k n=true):∀{es:List (Value×TV)} {bT:List MapEntry} (i:Nat),tM c ρ F h n es bT→
 (Instr.findNow kd k bT i=some none∧(∀v,dE es k v=es++[(k,v)])∧qM es k=es)∨
 ∃j x,j<es.length∧Instr.findNow kd k bT i=some (some (i+j,x))∧(∀v,dE es k v=es.set j (k,v))∧qM es k=es.eraseIdx j
 |[],bT,i,H=>by rw[H.bK];exact .inl ⟨rfl,fun _=>rfl,rfl⟩
 |e::es,bT,i,H=>by
  obtain⟨e',m,rfl,h1,h2,h3,h4,h5⟩:=H.aQ;unfold Instr.findNow;rw[h1,jD hk h2.2];cases hq:qg k e.1 with
  |true=>exact .inr ⟨0,e'.val,by simp,rfl,fun v=>by simp[dE,hq],by simp[qM,hq]⟩
  |false=>
   simp only
   rcases w9 hk (i+1) h5 with⟨q1,q2,q3⟩|⟨j,x,q0,q1,q2,q3⟩
   ·exact .inl ⟨q1,fun v=>by simp[dE,hq,q2],by simp[qM,hq,q3]⟩
   ·exact .inr ⟨j+1,x,by simp;omega,by rw[q1];congr 3;omega,fun v=>by simp[dE,hq,q2],by simp[qM,hq,q3]⟩
theorem tM.mono {kn c':Nat} {ρ':Gh} {F':Nat→Prop} {h':ab} {es:List (Value×TV)} {ev:List MapEntry} (H:tM c ρ F h kn es ev) (hm:∀t v,VR c ρ F h t v→VR c' ρ' F' h' t v):tM c' ρ' F' h' kn es ev:=
 ⟨H.1,fun i e e' q1 q2=>let⟨r1,r2,r3,r4⟩:=H.2 i e e' q1 q2;⟨r1,r2,r3,hm _ _ r4⟩⟩
theorem tM.vA {kn:Nat} {es:List (Value×TV)} {ev:List MapEntry} (H:tM c ρ F h kn es ev) {k:Value} {v:TV} {x:Value} (hk:0<kn∧aY k=kn) (hf:CV v=true) (hv:VR c ρ F h v x) (b:Nat):tM c ρ F h kn (es++[(k,v)]) (ev++[{key:=k,val:=x,born:=b}]):=by
 refine⟨by simp[H.1],fun i e e' q1 q2=>?_⟩;by_cases hi:i<es.length
 ·rw[List.getElem?_append_left hi]at q1;rw[List.getElem?_append_left (by rw[←H.1];exact hi)]at q2;exact H.2 i e e' q1 q2
 ·rw[List.getElem?_append_right om]at q1;rw[List.getElem?_append_right (by rw[←H.1];omega),←H.1]at q2;have:i - es.length=0:=by
   rcases Nat.eq_zero_or_pos (i - es.length)with h0|h0
   ·exact h0
   ·rw[List.getElem?_eq_none (by simp;omega)]at q1;cases q1
  rw[this]at q1 q2;simp at q1 q2;subst q1;subst q2;exact⟨rfl,hk,hf,hv⟩
theorem tM.set {kn:Nat} {es:List (Value×TV)} {ev:List MapEntry} (H:tM c ρ F h kn es ev) {k:Value} {v:TV} {x:Value} (hk:0<kn∧aY k=kn) (hf:CV v=true) (hv:VR c ρ F h v x) (j:Nat):tM c ρ F h kn (es.set j (k,v)) (ev.modify j fun e=>{e with key:=k,val:=x}):=by
 refine⟨by simp[H.1],fun i e e' q1 q2=>?_⟩;rw[List.getElem?_set]at q1;rw[List.getElem?_modify]at q2;by_cases e0:j=i
 ·subst e0;rw[if_pos rfl]at q1;split at q1
  ·cases q1;cases hq:ev[j]? with
   |none=>rw[hq]at q2;simp at q2
   |some a=>rw[hq]at q2;simp at q2;subst q2;exact⟨rfl,hk,hf,hv⟩
  ·cases q1
 ·rw[if_neg e0]at q1;cases hq:ev[i]? with
  |none=>rw[hq]at q2;simp at q2
  |some a=>
   rw[hq]at q2;simp[e0]at q2;subst q2;exact H.2 i e _ q1 hq
theorem tM.erase {kn:Nat} {es:List (Value×TV)} {ev:List MapEntry} (H:tM c ρ F h kn es ev) (j:Nat):tM c ρ F h kn (es.eraseIdx j) (ev.eraseIdx j):=by
 refine⟨by rw[List.length_eraseIdx,List.length_eraseIdx,H.1],fun i e e' q1 q2=>?_⟩;rw[List.getElem?_eraseIdx]at q1 q2;split at q1
 ·rename_i bF;rw[if_pos bF]at q2;exact H.2 _ _ _ q1 q2
 ·rename_i bF;rw[if_neg bF]at q2;exact H.2 _ _ _ q1 q2
theorem uH.vA {ev:List MapEntry} {clock:Nat} (H:uH ev clock) {k v:Value}:uH (ev++[{key:=k,val:=v,born:=clock}]) (clock+1):=by
 refine⟨fun x hx=>?_,?_⟩
 ·rcases List.mem_append.1 hx with hx|hx
  ·have:=H.1 x hx;omega
  ·simp at hx;subst hx;simp
 ·rw[List.map_append,List.nodup_append];refine⟨H.2,by simp,fun a ha b hb=>?_⟩;obtain⟨x,hx,rfl⟩:=List.mem_map.1 ha;simp at hb;subst hb;have:=H.1 x hx;omega
theorem uH.modify {ev:List MapEntry} {clock:Nat} (H:uH ev clock) (j:Nat) {f:MapEntry→MapEntry} (hf:∀e,(f e).born=e.born):uH (ev.modify j f) clock:=by
 have h1:(ev.modify j f).map (·.born)=ev.map (·.born):=by
  apply List.ext_getElem?;intro i;rw[List.getElem?_map,List.getElem?_map,List.getElem?_modify];cases ev[i]? with
  |none=>simp
  |some e=>by_cases h:j=i<;>simp[h,hf]
 refine⟨fun x hx=>?_,by rw[h1];exact H.2⟩;have:x.born∈(ev.modify j f).map (·.born):=List.mem_map.2 ⟨x,hx,rfl⟩;rw[h1]at this;obtain⟨y,hy,e⟩:=List.mem_map.1 this;rw[←e];exact H.1 y hy
theorem uH.erase {ev:List MapEntry} {clock:Nat} (H:uH ev clock) (j:Nat):uH (ev.eraseIdx j) clock:=
 ⟨fun x hx=>H.1 x (List.mem_of_mem_eraseIdx hx),((List.eraseIdx_sublist ev j).map _).nodup H.2⟩
theorem Jt {v:TV} {x:Value} (hv:VR c ρ F h v x) (ho:okV v=true):dj v=fA x:=by
 cases hv with
 |j=>simp[okV,yD]at ho
 |cY=>simp[okV,yD]at ho
 |sv=>simp[okV,yD]at ho
 |pv=>simp[okV,yD]at ho
 |s hp=>cases x<;>first|rfl |simp[ay]at hp
 |tk _ h1=>cases x<;>first|rfl |simp[Ja]at h1
 |wp _ h1=>cases x<;>first|rfl |simp[VW]at h1
 |_=>rfl
theorem xe {kd:TypeDesc} {k:Value} {n:Nat} {v w:TV} (hk:kindOk kd k n=true):∀{es:List (Value×TV)},dE (dE es k w) k v=dE es k v
 |[]=>by simp[dE,sm hk]
 |e::es=>by
  cases hq:qg k e.1 with
  |true=>simp[dE,hq,sm hk]
  |false=>simp[dE,hq,xe hk]
theorem iy.kl {base:Nat} {kd:TypeDesc} {k:Value} {n:Nat} (hk:kindOk kd k n=true) (s6:0<n∧aY k=n) {v:TV} {x:Value} (hv:cI c ρ F h base [] (aA v) x.cells.toList) (ha:dj v=fA x) (b:Nat):∀{M:List (Value×TV)} {ev:List MapEntry} {S:Ft} (i:Nat),iy c ρ F h base n S M ev→
 (Instr.findNow kd k ev i=some none∧iy c ρ F h base n S (dE M k v) (ev++[{key:=k,val:=x,born:=b}]))∨
 ∃j y S',Instr.findNow kd k ev i=some (some (i+j,y))∧iy c ρ F h base n S' (dE M k v) (ev.modify j fun e=>{e with key:=k,val:=x})∧S'.Sublist S
 |[],ev,S,i,H=>by
  cases H;exact .inl ⟨rfl,iy.cons (e:=(k,v)) (S:=[]) (S':=[]) rfl s6 ha hv .nil⟩
 |e::es,ev,S,i,H=>by
  cases H with
  |cons lT ir vV ze hl=>
   rename_i Sa Sb e' m;unfold Instr.findNow;rw[lT,jD hk ir.2];cases hq:qg k e.1 with
   |true=>
    refine .inr ⟨0,e'.val,Sb,rfl,?_,List.sublist_append_right _ _⟩;simp only[dE,hq];exact iy.cons (e:=(k,v)) (S:=[]) rfl s6 ha hv hl
   |false=>
    simp only[dE,hq];rcases iy.kl hk s6 hv ha b (i+1) hl with⟨q1,q2⟩|⟨j,y,S',q1,q2,q3⟩
    ·exact .inl ⟨q1,.cons lT ir vV ze q2⟩
    ·exact .inr ⟨j+1,y,Sa++S',by rw[q1];congr 3;omega,.cons lT ir vV ze q2,q3.append_left _⟩
theorem iy.del {base:Nat} {kd:TypeDesc} {k:Value} {n:Nat} (hk:kindOk kd k n=true):∀{M:List (Value×TV)} {ev:List MapEntry} {S:Ft} (i:Nat),iy c ρ F h base n S M ev→
 (Instr.findNow kd k ev i=some none∧qM M k=M)∨
 ∃j y S',Instr.findNow kd k ev i=some (some (i+j,y))∧iy c ρ F h base n S' (qM M k) (ev.eraseIdx j)∧S'.Sublist S
 |[],ev,S,i,H=>by cases H;exact .inl ⟨rfl,rfl⟩
 |e::es,ev,S,i,H=>by
  cases H with
  |cons lT ir vV ze hl=>
   rename_i Sa Sb e' m;unfold Instr.findNow;rw[lT,jD hk ir.2];cases hq:qg k e.1 with
   |true=>exact .inr ⟨0,e'.val,Sb,rfl,by simp only[qM,hq];exact hl,List.sublist_append_right _ _⟩
   |false=>
    simp only[qM,hq];rcases iy.del hk (i+1) hl with⟨q1,q2⟩|⟨j,y,S',q1,q2,q3⟩
    ·exact .inl ⟨q1,by rw[q2]⟩
    ·exact .inr ⟨j+1,y,Sa++S',by rw[q1];congr 3;omega,.cons lT ir vV ze q2,q3.append_left _⟩
theorem Ds {k:Value} {e:Value×TV}:∀{es:List (Value×TV)},e∈qM es k→e∈es
 |[],h=>by simp[qM]at h
 |a::l,h=>by
  unfold qM at h;split at h
  ·exact List.mem_cons_of_mem _ h
  ·rcases List.mem_cons.1 h with rfl |h
   ·exact List.mem_cons_self
   ·exact List.mem_cons_of_mem _ (Ds h)
theorem y5 (L:ck T E) (H:Mem X ρ F o c h) {t:TypeId} {m k v:TV} {mv kv vv:Value} (hw:qN T t m k v o c K) (hm:VR c ρ F h m mv) (hk:VR c ρ F h k kv) (hv:VR c ρ F h v vv) (hp:aI E af p=none) (hq:bG E af p=none) (eC:bc E af p=none)
 (he:c7 E X.base af p h=w8 E X.base t mv kv vv h):eV E X ρ F o c af h p K:=by
 unfold qN at hw;split at hw
 ·rename_i kt elem hd;split at hw
  ·rename_i kd yY ir;have hkv:=hk.dF.1;subst hkv;split at hw
   ·rename_i n;have TX:∀{kn},kindOk kd kv kn=true→0<kn∧aY kv=kn:=fun {kn} j9=>by
     unfold kindOk at j9;simp only[Bool.and_eq_true,beq_iff,aR]at j9;exact⟨j9.1.1,j9.2⟩
    have run:∀{kn b clock:Nat} {ev iP:List MapEntry} {XE:Nat},kindOk kd kv kn=true→mv= .map (some b)→X.base≤b→h.get b=some (.map ev clock)→
     (∃i,Instr.findNow kd kv ev 0=some i∧(match i with|some (i,_)=>iP=(ev.modify i fun e=>{e with key:=kv,val:=vv})∧XE=clock|none=>iP=ev++[{key:=kv,val:=vv,born:=clock}]∧XE=clock+1))→
     c7 E X.base af p h=some (.val undef,h.put b (.map iP XE)):=by
     rintro kn b clock ev iP XE j9 rfl br hg ⟨i,hi,h2⟩;obtain⟨uE,Jq⟩:=jn j9;rw[he];unfold w8 mV;rw[L.desc _ _ hd];simp only[Option.bind_some,L.desc _ _ ir];rw[aG.2 br,uE,Jq,hg];simp only[Bool.and_self,bC,hi,Option.bind_some];cases i with
     |none=>obtain⟨rfl,rfl⟩:=h2;rfl
     |some i=>obtain⟨rfl,rfl⟩:=h2;rfl
    -- entries that name objects
    have named:∀{S:Nat→Ft} {y:TO} {kn b clock:Nat} {ev:List MapEntry} {es M:List (Value×TV)} {Sq:Ft},MO X ρ F o c h S→look o n=some y→S n=(b,true)::Sq→ρ n=some (.dw b)→h.get b=some (.map ev clock)→uH ev clock→kindOk kd kv kn=true→okV v=true→mv= .map (some b)→
     (∀e∈es,∀t∈aA e.2,lZ t=true)→iy c ρ F h X.base kn Sq M ev→dE M kv v=dE es kv v→K .j (eU o n (.eT kn es [(kv,v)])) c (.dp [n])→eV E X ρ F o c af h p K:=by
     intro S y kn b clock ev es M Sq K0 hl hS hb hg ct j9 HL Zk bU hE hMe hw;have nw:=K0.Bq n _ hl;rw[hS]at nw;obtain⟨n1,n2⟩:=List.nodup_cons.1 nw;have br:X.base≤b:=(K0.eQ n _ b hl (by rw[hS];exact List.mem_cons_self)).1;rcases hE.kl j9 (TX j9) (cI.kC (iZ hv HL)) (Jt hv HL) clock 0 with⟨q1,q2⟩|⟨j,x,S',q1,q2,q3⟩
     ·rw[hMe]at q2;exact mz H (.refl H) K0 hl hS hg (fun _ h=>h) n2 hp hq eC (run j9 Zk br hg ⟨_,q1,rfl,rfl⟩) (fun _ _ _ _=>.j _) (fun h' hm same cX Mg oi=>.eT hb Mg bU (q2.bk (T:=fun x=>x=b) H.wf same (fun _ h=>h) cX hm oi) ct.vA) hw
     ·rw[hMe]at q2;exact mz H (.refl H) K0 hl hS hg (fun _ h=>q3.subset h) ((q3.map Prod.fst).nodup n2) hp hq eC (run (iP:=ev.modify j fun e=>{e with key:=kv,val:=vv}) (XE:=clock) j9 Zk br hg ⟨_,q1,by simp,rfl⟩) (fun _ _ _ _=>.j _) (fun h' hm same cX Mg oi=>.eT hb Mg bU (q2.bk (T:=fun x=>x=b) H.wf same (fun _ h=>h) cX hm oi) (ct.modify j fun _=>rfl)) hw
    split at hw
    ·rename_i kn es v' hl CA;split at hw
     ·rename_i j9;have HL:okV v=true:=by
       cases v<;>simp[LJ,cX]at CA<;>rfl
      obtain⟨F1,Sh,sv⟩:=PN H v HL;obtain⟨sZ,gU⟩:=sv v' vv CA hv;obtain⟨S,K0⟩:=H.ex;have hO:=K0.b8 n _ hl;have Pc:=fun x hx=>K0.eQ n _ x hl hx;generalize S n=Sm at hO Pc;cases hO with
      |map hb hg hlen hc ct=>
       rename_i b clock ev;have hE:tM c ρ F1 h kn es ev:=tM.mono ⟨hlen,hc⟩ Sh.bk;cases hm with
       |mp bL=>
        rw[hb]at bL;cases bL;obtain⟨y1,k1,k2⟩:=Sh.wk n _ hl;have:y1= .map kn es:=by cases y1<;>simp[ef]at k2;obtain⟨rfl,rfl⟩:=k2;rfl
        subst this;have br:X.base≤b:=(Pc b List.mem_cons_self).1;rcases w9 j9 0 hE with⟨q1,q2,q3⟩|⟨j,x,q0,q1,q2,q3⟩
        ·refine map_set H Sh k1 hb hg (hE.vA (TX j9) gU sZ clock) ct.vA hp hq eC (run j9 rfl br hg ⟨_,q1,rfl,rfl⟩) (fun _ _ _ _=>.j _) ?_;rw[q2]at hw;exact hw
        ·refine map_set H Sh k1 hb hg (hE.set (TX j9) gU sZ j) (ct.modify j fun _=>rfl) hp hq eC (run j9 rfl br hg ⟨_,q1,by simp,rfl⟩) (fun _ _ _ _=>.j _) ?_;rw[q2]at hw;exact hw
     ·exact hw.elim
    ·rename_i kn es hl CA;split at hw
     ·rename_i RV;simp only[Bool.and_eq_true]at RV;obtain⟨j9,HL⟩:=RV;obtain⟨S,K0⟩:=H.ex;have hO:=K0.b8 n _ hl;generalize hS:S n=Sm at hO;cases hO with
      |map hb hg hlen hc ct=>
       cases hm with
       |mp bL=>
        rw[hb]at bL;cases bL;have sj:=CR.TM (base:=X.base) hlen hc;exact named K0 hl hS hb hg ct j9 HL rfl (sj.Xe _ _ _ rfl) (iy.qQ sj _ _ _ rfl) rfl hw
     ·exact hw.elim
    ·rename_i kn es hl;split at hw
     ·rename_i RV;simp only[Bool.and_eq_true]at RV;obtain⟨j9,HL⟩:=RV;obtain⟨S,K0⟩:=H.ex;have hO:=K0.b8 n _ hl;generalize hS:S n=Sm at hO;cases hO with
      |eT hb hg bU hc ct=>
       cases hm with
       |mp bL=>
        rw[hb]at bL;cases bL;exact named K0 hl hS hb hg ct j9 HL rfl bU hc rfl hw
     ·exact hw.elim
    ·rename_i kn es k' w hl;split at hw
     ·rename_i RV;simp only[Bool.and_eq_true]at RV;obtain⟨j9,HL⟩:=RV;obtain⟨rfl,hw⟩:=hw;obtain⟨S,K0⟩:=H.ex;have hO:=K0.b8 n _ hl;generalize hS:S n=Sm at hO;cases hO with
      |eT hb hg bU hc ct=>
       cases hm with
       |mp bL=>
        rw[hb]at bL;cases bL;exact named K0 hl hS hb hg ct j9 HL rfl bU hc (xe j9) hw
     ·exact hw.elim
    ·exact hw.elim
   ·exact hw.elim
  ·exact hw.elim
 ·exact hw.elim
theorem FN (L:ck T E) (H:Mem X ρ F o c h) {t:TypeId} {m k:TV} {mv kv:Value} (hw:Bh T t m k o c K) (hm:VR c ρ F h m mv) (hk:VR c ρ F h k kv) (hp:aI E af p=none) (hq:bG E af p=none) (eC:bc E af p=none)
 (he:c7 E X.base af p h=(rG E X.base h t mv kv).bind fun r=>some (.val r.1,r.2)):eV E X ρ F o c af h p K:=by
 have PQ:∀(c:Nat) (ρ:Gh) (F:Nat→Prop) (h:ab),VR c ρ F h (.cY []) (.tuple #[]):=fun _ _ _ _=>.iw .nil;unfold Bh at hw;split at hw
 ·rename_i kt elem hd;split at hw
  ·rename_i kd yY n ir;have hkv:=hk.dF.1;subst hkv;have run:∀{kn b clock:Nat} {ev iP:List MapEntry},kindOk kd kv kn=true→mv= .map (some b)→X.base≤b→h.get b=some (.map ev clock)→(∃i,Instr.findNow kd kv ev 0=some i∧iP=(match i with|some (i,_)=>ev.eraseIdx i|none=>ev))→c7 E X.base af p h=some (.val (.tuple #[]),h.put b (.map iP clock)):=by
    rintro kn b clock ev iP j9 rfl br hg ⟨i,hi,rfl⟩;obtain⟨uE,Jq⟩:=jn j9;rw[he];unfold rG;rw[L.desc _ _ hd];simp only[Option.bind_some,L.desc _ _ ir];rw[aG.2 br,uE,Jq,hg];simp only[Bool.and_self,bC,hi,Option.bind_some];cases i<;>rfl
   obtain⟨S,K0⟩:=H.ex;split at hw
   ·rename_i kn es hl;split at hw
    ·rename_i j9;have hO:=K0.b8 n _ hl;have Pc:=fun x hx=>K0.eQ n _ x hl hx;generalize S n=Sm at hO Pc;cases hO with
     |map hb hg hlen hc ct=>
      rename_i b clock ev;have hE:tM c ρ F h kn es ev:=⟨hlen,hc⟩;cases hm with
      |mp bL=>
       rw[hb]at bL;cases bL;have br:X.base≤b:=(Pc b List.mem_cons_self).1;rcases w9 j9 0 hE with⟨q1,q2,q3⟩|⟨j,x,q0,q1,q2,q3⟩
       ·refine map_set H (.refl H) hl hb hg hE ct hp hq eC (run (iP:=ev) j9 rfl br hg ⟨_,q1,rfl⟩) PQ ?_;rw[q3]at hw;exact hw
       ·refine map_set H (.refl H) hl hb hg (hE.erase j) (ct.erase j) hp hq eC (run (iP:=ev.eraseIdx j) j9 rfl br hg ⟨_,q1,by simp⟩) PQ ?_;rw[q3]at hw;exact hw
    ·exact hw.elim
   ·rename_i kn es hl;split at hw
    ·rename_i j9;have hO:=K0.b8 n _ hl;have Pc:=fun x hx=>K0.eQ n _ x hl hx;have nw:=K0.Bq n _ hl;generalize hS:S n=Sm at hO Pc nw;cases hO with
     |eT hb hg bU hc ct=>
      rename_i Sq b clock ev;cases hm with
      |mp bL=>
       rw[hb]at bL;cases bL;have br:X.base≤b:=(Pc b List.mem_cons_self).1;obtain⟨n1,n2⟩:=List.nodup_cons.1 nw;have hE:iy c ρ F h X.base kn Sq es ev:=hc;rcases hE.del j9 0 with⟨q1,q2⟩|⟨j,x,S',q1,q2,q3⟩
       ·rw[q2]at hw;exact mz H (.refl H) K0 hl hS hg (fun _ h=>h) n2 hp hq eC (run (iP:=ev) j9 rfl br hg ⟨_,q1,rfl⟩) PQ (fun h' hm same cX Mg oi=>.eT hb Mg bU (hE.bk (T:=fun x=>x=b) H.wf same (fun _ h=>h) cX hm oi) ct) hw
       ·exact mz H (.refl H) K0 hl hS hg (fun _ h=>q3.subset h) ((q3.map Prod.fst).nodup n2) hp hq eC (run (iP:=ev.eraseIdx j) j9 rfl br hg ⟨_,q1,by simp⟩) PQ (fun h' hm same cX Mg oi=>.eT hb Mg (fun e he=>bU e (Ds he)) (q2.bk (T:=fun x=>x=b) H.wf same (fun _ h=>h) cX hm oi) (ct.erase j)) hw
    ·exact hw.elim
   ·exact hw.elim
  ·exact hw.elim
 ·exact hw.elim
theorem zJ (H:Mem X ρ F o c h) {t:TypeId} {n kn:Nat} {y:TO} {mv:Value} (hl:look o n=some y) (hy:(∃es,y= .map kn es)∨∃es op,y= .eT kn es op) (hw:K (.cY []) (eU o n (.map kn [])) c (.dp [n])) (hm:VR c ρ F h (.mp n) mv) (hp:aI E af p=none) (hq:bG E af p=none) (eC:bc E af p=none)
 (hd:(E.desc t).isSome=true) (he:c7 E X.base af p h=((E.desc t).bind fun _=>qs E X.base h t mv).bind fun r=>some (.val r.1,r.2)):eV E X ρ F o c af h p K:=by
 obtain⟨S,K0⟩:=H.ex;have hO:=K0.b8 n _ hl;have Pc:=fun x hx=>K0.eQ n _ x hl hx;obtain⟨d,hd⟩:=Option.isSome_iff_exists.1 hd;have main:∀{b clock:Nat} {ev:List MapEntry} {Sq:Ft},S n=(b,true)::Sq→ρ n=some (.dw b)→h.get b=some (.map ev clock)→eV E X ρ F o c af h p K:=by
  intro b clock ev Sq hS hb hg;cases hm with
  |mp bL=>
   rw[hb]at bL;cases bL;have br:X.base≤b:=(Pc b (by rw[hS];exact List.mem_cons_self)).1;refine mz H (.refl H) K0 (S':=[]) (iP:=[]) (clock':=clock) hl hS hg (by simp) (by simp[dk]) hp hq eC ?_ (fun _ _ _ _=>.iw .nil) (fun h' hm same cX Mg oi=>.map hb Mg rfl (fun i e e' q=>by simp at q) ⟨by simp,by simp⟩) hw;rw[he,hd];unfold qs;simp only[Option.bind_some];rw[aG.2 br,hg];rfl
 generalize hS:S n=Sm at hO;rcases hy with⟨es,rfl⟩|⟨es,op,rfl⟩
 ·cases hO with
  |map hb hg hlen hc ct=>exact main hS hb hg
 ·cases hO with
  |eT hb hg bU hc ct=>exact main hS hb hg
theorem ER.take {z:Nat} {es:List (List TV)} {cs:List Value} (A:ER c ρ F h z es cs) {i:Nat} (hi:i≤es.length):ER c ρ F h z (es.take i) (cs.take (i*z)):=by
 have hle:i*z≤es.length*z:=Nat.mul_le_mul_right z hi;refine⟨by rw[List.length_take,List.length_take,A.len,Nat.min_eq_left hi,Nat.min_eq_left hle],fun e he=>A.each e (List.mem_of_mem_take he),fun e he=>A.fz e (List.mem_of_mem_take he),fun a b e t v q1 q2 q3=>?_⟩;rw[List.getElem?_take]at q1 q3;split at q1
 ·split at q3
  ·exact A.cell a b e t v q1 q2 q3
  ·cases q3
 ·cases q1
theorem FO (L:ck T E) (H:Mem X ρ F o c h) {t elem:TypeId} {m i z:Nat} {zv xv:Value} {zs:List TV} {es:List (List TV)} (hd:T.desc t=some (.slice elem)) (hz:T.zero elem=some zv) (hl:look o m=some (.arr z true es)) (jj:lM zv=some zs)
 (hc:(zs.all fz&&Nat.beq zs.length z&&zs.all yD)=true) (hw:(es.length≤i→K (.cY []) o c (.dp [m]))∧(i<es.length→K (.cY []) (eU o m (.arr z true (es.take i++List.replicate (es.length - i) zs))) c (.dp [m])))
 (hx:VR c ρ F h (.sv m i) xv) (hp:aI E af p=none) (hq:bG E af p=none) (eC:bc E af p=none)
 (he:c7 E X.base af p h=((E.desc t).bind fun _=>qs E X.base h t xv).bind fun r=>some (.val r.1,r.2)):eV E X ρ F o c af h p K:=by
 simp only[Bool.and_eq_true,beq_iff]at hc;obtain⟨⟨gU,Jf⟩,LH⟩:=hc;obtain⟨jL,nq⟩:=L.zero _ _ hz;have qB:dH c ρ F h zs zv.cells.toList:=fP nq jj;have nop:∀a cap,xv= .slice a 0 cap→(a=none∨∃b q z1,a=some ⟨b,q,some z1⟩)→es.length≤i→eV E X ρ F o c af h p K:=by
  rintro a cap rfl ha hle;refine eV.dp H (v:=.cY []) (x:=.tuple #[]) hp hq eC ?_ (.refl H) (.iw .nil) (Raw.refl [m]) (hw.1 hle);rw[he,L.desc _ _ hd];rcases ha with rfl |⟨b,q,z1,rfl⟩<;>rfl
 obtain⟨S,K0⟩:=H.ex;have hO:=K0.b8 m _ hl;generalize hS:S m=Sm at hO;cases hx with
 |sv hn h1 ha h0=>
  cases hO with
  |nil hb Cp=>
   rcases h0 _ hb with rfl |⟨b,o',z',cap,rfl⟩
   ·exact nop _ _ rfl (.inl rfl) (Nat.zero_le _)
   ·exact nop _ _ rfl (.inr ⟨_,_,_,rfl⟩) (Nat.zero_le _)
  |arr hb hg hf nW dS Cp cE vf yU l4 hF=>
   rename_i b f t0 eX aO cs;obtain⟨q,cap,rfl,hq'⟩:=ha _ _ _ hb;by_cases hi:i<es.length
   ·obtain rfl:=hq' hi;have hE:ER c ρ F h z es cs:=⟨cE,vf,yU,l4⟩;have fW:=dO hf nW (az hg);have hR:=ER.replicate qB Jf gU (es.length - i);have hRl:=hR.len;rw[List.length_replicate]at hRl;have hiz:i*z+(es.length - i)*z=es.length*z:=by rw[←Nat.add_mul];congr 1;omega
    obtain⟨ta,BD⟩:=lx (n:=i*z) (l:=cs) (xs:=aP zv.cells.toList (es.length - i)) (by rw[cE,hRl];omega);have aaI:ta=cs.take (i*z)++aP zv.cells.toList (es.length - i):=by
     rw[j8 BD,List.drop_drop,List.drop_eq_nil_of_le (by rw[cE,hRl];omega),List.append_nil]
    have XA:ER c ρ F h z (es.take i++List.replicate (es.length - i) zs) ta:=by rw[aaI];exact(hE.take (Nat.le_of_lt hi)).append hR
    have yE:(f,true)∈S m:=by rw[hS];exact List.mem_cons_self
    have qj:=K0.eQ m _ f hl (dU yE);have Mf:X.base≤b:=by have:=H.wf.le _ _ _ _ _ hg;omega
    have W:=Bt (cs':=ta) H.wf hg hf;obtain⟨t',Y7,km⟩:=W.self;have G9:(es.take i++List.replicate (es.length - i) zs).length=es.length:=by simp;omega
    obtain⟨M,hk⟩:=H.set K0 (y':=.arr z true (es.take i++List.replicate (es.length - i) zs)) (S0:=[(f,true)]) hl yE (fun p hp=>by simp only[List.mem_singleton]at hp;subst hp;exact yE) (by simp[dk]) W.size W.wf W.same W.dk fun hm _=>
     OR.LU (by rw[G9];exact hb) km W.dA (Nat.le_refl _) dS Cp (XA.mono hm) (fun h=>by cases h)
    refine eV.dp H (v:=.cY []) (x:=.tuple #[]) hp hq eC ?_ (Dq H (.refl H) M hk (fun _ h=>h) (by rw[W.size];exact Nat.le_refl _) fun b' cs' bL ku=>jl H.wf W.same (K0.apart m _ _ b' hl yE bL) ku) (.iw .nil)
     (sn H (.refl H) K0 hl (dU yE) W.same) (hw.2 hi)
    rw[he,L.desc _ _ hd];unfold qs;simp only[Option.bind_some];have mg:Nat.beq (es.length - i) 0=false:=by
     cases hbq:Nat.beq (es.length - i) 0 with
     |false=>rfl
     |true=>have:=beq_iff.1 hbq;omega
    rw[mg];simp only[cond_false,L.desc _ _ hd,Option.bind_some,jL,vz LH qB,bC,fW,BD,HB hg hf Mf dS]
   ·exact nop _ _ (by rw[show es.length - i=0 by omega]) (.inr ⟨_,_,_,rfl⟩) om
end
section
variable {T E:Env} {X:Cx} {ρ:Gh} {F:Nat→Prop} {o:Ob} {c:Nat} {af:AF} {f:Fr} {h:ab} {p:Oper} {K:OK}
theorem size_le {k bytes:Nat} (hk:k<1048576) (hb:bytes<1048576):(k+1)*(bytes+1)≤1099511627776:=by
 have h1:(k+1)*(bytes+1)≤1048576*1048576:=Nat.mul_le_mul hk hb;exact h1
theorem Mem.PR (H:Mem X ρ F o c h) {z:Nat} {y:TO} (uI:∀(c:Nat) (ρ:Gh) (F:Nat→Prop) (n:Nat),ρ n=some (.nil z)→OR c ρ F h X.base n [] y):Mem X (cu ρ c (some (.nil z))) F ((c,y)::o) (c+1) h∧∀t v,VR c ρ F h t v→VR (c+1) (cu ρ c (some (.nil z))) F h t v:=by
 obtain⟨S,K⟩:=H.ex
 refine H.change K (fun _=>False) c y [] (Nat.le_refl _) H.wf (fun _ hf=>hf.elim) (fun _ _ _=>rfl) (fun _ _ _ hr=>hr) (fun _ _=>rfl) (fun _ hb=>hb) (fun _ hb hn=>absurd hb hn) om (H.C5 _) (H.C6 _) (H.C7 _)
  (fun m y' bj hl=>?_) (fun y' hl=>?_) (uI _ _ _ _ (aK _ _ _)) (by simp[dk]) (by simp[dk]) (by simp)
 ·rw[aJ,if_neg (fun e=>bj e.symm)]at hl;exact⟨hl,bd _ _ bj,fun _ _ hf=>hf.elim⟩
 ·rw[aJ,if_pos rfl,Option.some.injEq]at hl;exact hl.symm
theorem Mem.RW (H:Mem X ρ F o c h) {S:Nat→Ft} (K:MO X ρ F o c h S) {m z l b0:Nat} {y y':TO} {S0:Ft} {h':ab} (hl:look o m=some y) (hb:ρ m=some (.arr b0 z l)) (fG:h.size≤h'.size) (G4:Wf h') (same:∀b,b<h.size→h'.get b=h.get b)
 (cX:∀b cs,F b→h.rd b=some cs→h'.rd b=some cs) (jB:∀p∈S0,p∈S m∨p.1=h.size) (lq:(dk S0).Nodup) (bF:∀x∈dk S0,x<h'.size) (fl:Bool) (qA:fl=true→(h'.rd h.size).isSome=true∧hd h' h.size=h.size∧∀x,(x,true)∈S0→h.size≠x) {q:Loc} (_:∀b,q≠ .dw b)
 (uI:(∀t v,VR c ρ F h t v→VR (c+1) (cu (cu ρ m none) c (some q)) (fun x=>F x∨(fl=true∧x=h.size)) h' t v)→OR (c+1) (cu (cu ρ m none) c (some q)) (fun x=>F x∨(fl=true∧x=h.size)) h' X.base c S0 y'):
 Mem X (cu (cu ρ m none) c (some q)) (fun x=>F x∨(fl=true∧x=h.size)) ((c,y')::fv o m) (c+1) h'∧∀t v,VR c ρ F h t v→VR (c+1) (cu (cu ρ m none) c (some q)) (fun x=>F x∨(fl=true∧x=h.size)) h' t v:=by
 have hm:=H.lt hl;have fj:∀n,n≠m→n≠c→cu (cu ρ m none) c (some q) n=ρ n:=fun n h1 h2=>by rw[bd _ _ h2,bd _ _ h1]
 have hA:∀n l',n<c→cu (cu ρ m none) c (some q) n=some l'→ρ n=some l':=fun n l' hn h1=>by
  by_cases e:n=m
  ·subst e;rw[bd _ _ om,aK]at h1;cases h1
  ·rwa [fj n e om]at h1
 have hB:∀n b',ρ n=some (.dw b')→cu (cu ρ m none) c (some q) n=some (.dw b'):=fun n b' hn=>by
  have:=H.names _ _ hn;by_cases e:n=m
  ·subst e;rw[hb]at hn;cases hn
  ·rwa [fj n e om]
 have C8:∀t v,VR c ρ F h t v→VR (c+1) (cu (cu ρ m none) c (some q)) (fun x=>F x∨(fl=true∧x=h.size)) h' t v:=fun t v=>VR.mono om hA hB (fun _ hb=>.inl hb) cX;have uJ:∀n y1,n≠c→look ((c,y')::fv o m) n=some y1→n≠m∧look o n=some y1:=fun n y bj hy=>by
  rw[aJ,if_neg (fun e=>bj e.symm),dy]at hy;by_cases e:n=m
  ·rw[if_pos e]at hy;cases hy
  ·rw[if_neg e]at hy;exact⟨e,hy⟩
 have nZ:∀x∈dk S0,x∈dk (S m)∨x=h.size:=fun x hx=>by
  obtain⟨p,hp,rfl⟩:=List.mem_map.1 hx;rcases jB p hp with h1|e
  ·exact .inl (List.mem_map.2 ⟨p,h1,rfl⟩)
  ·exact .inr e
 refine H.change K (fun _=>False) c y' S0 fG G4 (fun _ hf=>hf.elim) (fun b hb _=>same b hb) cX (fun b hb=>by unfold hd;rw[same b hb]) (fun _ hb=>.inl hb) (fun b hb hn=>?_) om hA hB (fun n l' hn=>?_)
  (fun n y' bj hy=>?_) (fun y' hy=>?_) (uI C8) lq (fun x hx=>?_) fun x b hx hb=>?_
 ·rcases hb with hb|⟨hf,rfl⟩
  ·exact absurd hb hn
  ·obtain⟨g1,g2,g3⟩:=qA hf;refine⟨g1,fun n y1 x bj hy hx e=>?_,fun x hx=>by rw[g2];exact g3 x hx,.inr (by rw[g2];exact H.od.size)⟩;rw[g2]at e;subst e;have:=(K.eQ n y1 _ (uJ n y1 bj hy).2 (dU hx)).2.1;omega
 ·by_cases e:n=c
  ·omega
  ·by_cases e2:n=m
   ·omega
   ·rw[fj n e2 e]at hn;have:=H.names _ _ hn;omega
 ·obtain⟨h1,h2⟩:=uJ n y' bj hy;exact⟨h2,fj n h1 bj,fun _ _ hf=>hf.elim⟩
 ·rw[aJ,if_pos rfl,Option.some.injEq]at hy;exact hy.symm
 ·rcases nZ x hx with h1|rfl
  ·obtain⟨q1,q2,q3⟩:=K.eQ m y x hl h1;refine⟨q1,bF x hx,q3,fun n y1 bj hy hh=>?_⟩;obtain⟨h3,h4⟩:=uJ n y1 bj hy;exact h3 (K.eY n m y1 _ _ h4 hl hh h1)
  ·refine⟨H.l8,bF _ hx,.inr H.od.size,fun n y1 bj hy hh=>?_⟩;obtain⟨h3,h4⟩:=uJ n y1 bj hy;have:=(K.eQ n y1 _ h4 hh).2.1;omega
 ·rcases jB _ hx with h1|e
  ·exact K.apart m y x b hl h1 hb
  ·simp only at e;subst e;have:=H.wf.Hv b;have:=H.Hy hb;omega
theorem OR.named {base m n c':Nat} {ρ':Gh} {S:Ft} {y:TO} (W:Wf h) (H:OR c ρ F h base m S y) (hm:∀t v,VR c ρ F h t v→VR c' ρ' F h t v) (fj:ρ' n=ρ m):OR c' ρ' F h base n S y:=by
 have kk:∀{S:Ft} {l:List TV} {vs:List Value},cI c ρ F h base S l vs→cI c' ρ' F h base S l vs:=fun hc=>hc.bk (T:=fun _=>False) W (fun _ _ _=>rfl) (fun _ h=>h) (fun _ _ _ h=>h) hm (fun _ _ hf=>hf.elim);cases H with
 |cells hb hg ht hc=>exact .cells (fj.trans hb) hg ht (kk hc)
 |map hb hg hl hc ct=>exact .map (fj.trans hb) hg hl (fun i e e' h1 h2=>let⟨q1,q2,q3,q4⟩:=hc i e e' h1 h2;⟨q1,q2,q3,hm _ _ q4⟩) ct
 |nil hb hz=>exact .nil (fj.trans hb) hz
 |arr hb hg hf ht dS hz hl he gU hc hF=>exact .arr (fj.trans hb) hg hf ht dS hz hl he gU (fun i j e t v q1 q2 q3=>hm _ _ (hc i j e t v q1 q2 q3)) hF
 |gq hb hz=>exact .gq (fj.trans hb) hz
 |bV hb hg hf ht dS hz hl he bU jK hc=>exact .bV (fj.trans hb) hg hf ht dS hz hl he bU jK (kk hc)
 |eT hb hg bU hc ct=>exact .eT (fj.trans hb) hg bU (hc.bk (T:=fun _=>False) W (fun _ _ _=>rfl) (fun _ h=>h) (fun _ _ _ h=>h) hm (fun _ _ hf=>hf.elim)) ct
 |gO hb hg=>exact .gO (fj.trans hb) hg
theorem Mem.rename (H:Mem X ρ F o c h) {m z:Nat} {y:TO} (hl:look o m=some y) {b l:Nat} (hb:ρ m=some (.arr b z l)):
 Mem X (cu (cu ρ m none) c (some (.arr b z l))) F ((c,y)::fv o m) (c+1) h∧∀t v,VR c ρ F h t v→VR (c+1) (cu (cu ρ m none) c (some (.arr b z l))) F h t v:=by
 obtain⟨S,K⟩:=H.ex;have e:(fun x=>F x∨(false=true∧x=h.size))=F:=by funext x;simp
 have:=H.RW K (S0:=S m) (y':=y) (q:=.arr b z l) hl hb (Nat.le_refl _) H.wf (fun _ _=>rfl) (fun _ _ _ h=>h) (fun p hp=>.inl hp) (K.Bq m y hl) (fun x hx=>(K.eQ m y x hl hx).2.1) false (fun h=>by cases h) (by simp) fun hm=>by
  rw[e]at hm ⊢;exact(K.b8 m y hl).named H.wf hm ((aK _ _ _).trans hb.symm)
 rwa [e]at this
theorem oX (H:Mem X ρ F o c h) {x:TV} {zx n:Nat} {xs:List (List TV)} {op:List (Nat×List TV)} (he:W8 o x=some (zx,xs,op)) (hz:zx=n∨zx=0∧op=[]) (jK:∀p∈op,p.2.all eI=true) {xv:Value} (hx:VR c ρ F h x xv):
 l5 xv=some xs.length∧(∀p∈op,p.1<xs.length∧p.2.length=n)∧(∀e∈xs,∀t∈e,fz t=true)∧(xs=[]∨∃new,fh h n xs.length xv=some new∧(op=[]→ER c ρ F h n xs new)∧new.length=xs.length*n∧(∀e∈xs,e.length=n)∧dH c ρ F h (cF xs op).flatten new):=by
 have done:∀{xs:List (List TV)} {new:List Value},ER c ρ F h n xs new→fh h n xs.length xv=some new→l5 xv=some xs.length→l5 xv=some xs.length∧(∀p∈([]:List (Nat×List TV)),p.1<xs.length∧p.2.length=n)∧(∀e∈xs,∀t∈e,fz t=true)∧(xs=[]∨∃new,fh h n xs.length xv=some new∧(([]:List (Nat×List TV))=[]→ER c ρ F h n xs new)∧new.length=xs.length*n∧(∀e∈xs,e.length=n)∧dH c ρ F h (cF xs []).flatten new):=
  fun E h1 h2=>⟨h2,by simp,E.fz,.inr ⟨_,h1,fun _=>E,E.len,E.each,gY E.len E.each E.cell⟩⟩
 unfold W8 at he;split at he
 ·rename_i m;split at he
  ·rename_i z w es hl;cases he;obtain⟨Sm,hO⟩:=H.b8 hl;cases hx with
   |tk hn pF ha h0=>
    cases hO with
    |nil hb jL=>
     rcases h0 _ hb with rfl |⟨b,o',cs,q1,q2,q3,q4,rfl⟩
     ·exact⟨rfl,by simp,by simp,.inl rfl⟩
     ·exact⟨rfl,by simp,by simp,.inl rfl⟩
    |arr hb hg hf ht dS jL hlen he gU hc hF=>
     rename_i b f t0 eX aO cs;obtain⟨cap,h1,rfl⟩:=ha _ _ _ hb;have PJ:zx=n:=by omega
     subst PJ;refine done ⟨hlen,he,gU,hc⟩ ?_ rfl;simp only[fh,M.ae,dO hf ht (az hg),Option.bind_some,List.drop_zero,aU];rw[←hlen];simp
  ·rename_i z es I9 hl;split at he
   ·rename_i kr;cases he;obtain⟨Sm,hO⟩:=H.b8 hl;have gU:∀e∈xs,∀t∈e,fz t=true:=fun e he t ht=>List.all_eq_true.1 (List.all_eq_true.1 kr e he) t ht;cases hx with
    |tk hn pF ha h0=>
     cases hO with
     |gq hb jL=>
      rcases h0 _ hb with rfl |⟨b,o',cs,q1,q2,q3,q4,rfl⟩
      ·exact⟨rfl,by simp,by simp,.inl rfl⟩
      ·exact⟨rfl,by simp,by simp,.inl rfl⟩
     |bV hb hg hf ht dS jL hlen he bU aaJ hc=>
      rename_i b f t0 eX aO cs;obtain⟨cap,h1,rfl⟩:=ha _ _ _ hb;have PJ:zx=n:=by omega
      subst PJ;have nq:(cF xs op).flatten.all eI=true:=by
       rw[List.all_eq_true];intro t ht;obtain⟨e,h1,h2⟩:=List.mem_flatten.1 ht;have key:∀(op:List (Nat×List TV)),(∀p∈op,p.2.all eI=true)→e∈cF xs op→eI t=true:=by
        intro op
        induction op with
        |nil=>intro _ h1;have:=gU e h1 t h2;cases t<;>first|rfl |simp[fz]at this
        |cons p l ih=>
         intro jK h1;rcases List.mem_or_eq_of_mem_set h1 with h3|rfl
         ·exact ih (fun q hq=>jK q (List.mem_cons_of_mem _ hq)) h3
         ·exact List.all_eq_true.1 (jK p List.mem_cons_self) t h2
       exact key op jK h1
      obtain⟨hV,_⟩:=hc.VX (fun t v hv hf=>hv.dL hf) nq;refine⟨rfl,aaJ,gU,.inr ⟨cs,?_,fun e=>?_,hlen,he,hV⟩⟩
      ·simp only[fh,M.ae,dO hf ht (az hg),Option.bind_some,List.drop_zero,aU];rw[←hlen];simp
      ·subst e;refine⟨hlen,he,gU,fun i j e t v q1 q2 q3=>?_⟩;obtain⟨f1,f2⟩:=eZ he q1;refine hV.2 (i*zx+j) t v ?_ q3;show xs.flatten[i*zx+j]? =some t;have hj:j<zx:=by rw[←he e (List.mem_of_getElem? q1)];exact(List.getElem?_eq_some_iff.1 q2).1
       rw[←f1,List.getElem?_take,if_pos hj,List.getElem?_drop]at q2;exact q2
   ·cases he
  ·cases he
 ·cases he;cases hx with
  |nil h1=>subst h1;exact⟨rfl,by simp,by simp,.inl rfl⟩
  |sl q1 q2 q3 q4 q5 q6 q7 q8 q9 RP=>
   rename_i b oo len cap cs;have PJ:zx=n:=by omega
   subst PJ;refine done (new:=(cs.drop oo).take (xs.length*zx)) ⟨by simp;rw[←q4]at q7;omega,q8,q9,fun i j e t v r1 r2 r3=>?_⟩ ?_ (by simp[l5,q4])
   ·rw[List.getElem?_take]at r3;split at r3
    ·rw[List.getElem?_drop]at r3;exact RP i j e t v r1 r2 (by rw[←r3];congr 1;omega)
    ·cases r3
   ·simp only[fh,M.ae,q2,Option.bind_some,aU,and_true,List.length_drop];rw[←q4]at q7;omega
 ·cases he
theorem ER.fq {z:Nat} {es:List (List TV)} {cs:List Value} (A:ER c ρ F h z es cs) (hz:0<z):cs.all M.fq=true:=by
 rw[List.all_eq_true];intro v hv;obtain⟨k,hk⟩:=List.getElem?_of_mem hv;have hkl:k<cs.length:=(List.getElem?_eq_some_iff.1 hk).1;rw[A.len]at hkl;have hi:k / z<es.length:=by
  rw[Nat.div_lt_iff_lt_mul hz];exact hkl
 obtain⟨e,he⟩:∃e,es[k / z]? =some e:=⟨_,List.getElem?_eq_getElem hi⟩;have HE:=A.each e (List.mem_of_getElem? he);have hj:k % z<e.length:=by rw[HE];exact Nat.mod_lt _ hz
 obtain⟨t,ht⟩:∃t,e[k % z]? =some t:=⟨_,List.getElem?_eq_getElem hj⟩;have O3:k / z*z+k % z=k:=by rw[Nat.mul_comm];exact Nat.div_add_mod k z
 have hvr:=A.cell (k / z) (k % z) e t v he ht (by rw[O3];exact hk);have gU:=A.fz e (List.mem_of_getElem? he) t (List.mem_of_getElem? ht);have hoc:yD t=true:=by
  cases t<;>simp[M.fz]at gU<;>rfl
 exact HK hoc hvr
structure BE (E:Env) (st xt elem n bytes:Nat):Prop where
 sd:E.desc st=some (.slice elem)
 xd:∃e,E.desc xt=some (.slice e)
 size:E.size elem=some n
 bytes:E.bytes elem=some bytes
 zero:∃z,E.zero elem=some z∧z.cells.size=n
theorem xf {base st xt elem n bytes:Nat} (A:BE E st xt elem n bytes) {s x:Value} (hs:Ja s=true) (RC:∀l k,s= .slice none l k→l=0∧k=0) (uE:∀b oo sp l k,s= .slice (some ⟨b,oo,sp⟩) l k→sp.isSome) (hx:l5 x=some 0):bD E base h st xt s x=some (s,h):=by
 obtain⟨e,KU⟩:=A.xd;obtain⟨z,TY,PK⟩:=A.zero;unfold bD;rw[A.sd,KU];simp only[Option.bind_some,A.size,A.bytes,TY,hx];simp only[kj,PK,bC];cases s<;>simp[Ja]at hs;rename_i a l k;cases a with
 |none=>obtain⟨rfl,rfl⟩:=RC l k rfl;simp
 |some a=>
  obtain⟨b,oo,sp⟩:=a;have:=uE b oo sp l k rfl;cases sp with
  |none=>simp at this
  |some q=>simp
theorem PS {base st xt elem n bytes len:Nat} (A:BE E st xt elem n bytes) {x:Value} {new:List Value} (hx:l5 x=some len) (hl:len≠0) (hb:(len+1)*(bytes+1)≤1099511627776) (hf:fh h n len x=some new) (hn:new.length=len*n):
 bD E base h st xt (.slice none 0 0) x=some (fresh h new n len):=by
 obtain⟨e,KU⟩:=A.xd;obtain⟨z,TY,PK⟩:=A.zero;unfold bD;rw[A.sd,KU];simp only[Option.bind_some,A.size,A.bytes,TY,hx];simp only[kj,PK,bC];simp[C3,hl,aG.2 hb,hf,hn]
theorem Dt {base st xt elem n bytes len b oo sl:Nat} (A:BE E st xt elem n bytes) {x:Value} {old new:List Value} (hx:l5 x=some len) (hl:len≠0) (hb:(sl+len+1)*(bytes+1)≤1099511627776) (hf:fh h n len x=some new) (hn:new.length=len*n)
 (ho:M.ae h b oo (sl*n)=some old):bD E base h st xt (.slice (some ⟨b,oo,some n⟩) sl sl) x=some (fresh h (old++new) n (sl+len)):=by
 obtain⟨e,KU⟩:=A.xd;obtain⟨z,TY,PK⟩:=A.zero;unfold bD;rw[A.sd,KU];simp only[Option.bind_some,A.size,A.bytes,TY,hx];simp only[kj,PK,bC];simp[C3,hl,aG.2 hb,hf,hn,ho]
theorem PT {base st xt elem n bytes len b sl cap f aO:Nat} (A:BE E st xt elem n bytes) {x:Value} {old new cs:List Value} (hx:l5 x=some len) (hl:len≠0) (hb:(sl+len+1)*(bytes+1)≤1099511627776) (hf:fh h n len x=some new) (hn:new.length=len*n)
 (ho:M.ae h b 0 (sl*n)=some old) (gD:cap≠sl) (hc:h.cellsOf b=some cs) (l9:h.dA b=some (f,b,aO)) (dS:base≤f) (kA:new.all fq=true):
 bD E base h st xt (.slice (some ⟨b,0,some n⟩) sl cap) x=some (.slice (some ⟨h.size,0,some n⟩) (sl+len) (sl+len+1),dW h f (bif Nat.beq (sl*n) cs.length then aO else h.size) (old++new)):=by
 obtain⟨e,KU⟩:=A.xd;obtain⟨z,TY,PK⟩:=A.zero;unfold bD;rw[A.sd,KU];simp only[Option.bind_some,A.size,A.bytes,TY,hx];simp only[kj,PK,bC];have h1:new.all fq=true:=kA;simp[C3,hl,aG.2 hb,hf,hn,ho,gD,hc,l9,aG.2 dS,h1];rfl
theorem Mem.flag {n:Nat} {xs:List (List TV)} {o1:Ob} (H:Mem X ρ F ((c,.arr n true xs)::o1) (c+1) h) (w:Bool):∃F',Mem X ρ F' ((c,.arr n w xs)::o1) (c+1) h∧(∀t v,VR (c+1) ρ F h t v→VR (c+1) ρ F' h t v)∧∀b,F b→F' b:=by
 cases w with
 |true=>exact⟨F,H,fun _ _ h=>h,fun _ h=>h⟩
 |false=>
  obtain⟨F',h1,h2,h3,_⟩:=H.share c;refine⟨F',h1.less fun m y hl=>?_,h2,h3⟩;have:iV ((c,TO.arr n true xs)::o1) c=eU ((c,TO.arr n true xs)::o1) c (.arr n false xs):=by
   unfold iV;rw[aJ,if_pos rfl]
  rw[this,ew];rw[aJ]at hl;by_cases e:m=c
  ·subst e;rw[if_pos rfl,aJ,if_pos rfl];rw[if_pos rfl]at hl;simpa using hl
  ·rw[if_neg e,aJ,if_neg (fun e2=>e e2.symm)]
   rwa [if_neg (fun e2=>e e2.symm)]at hl
theorem so (H:Mem X ρ F o c h) {m:Nat} {y:TO} {l:Option Loc}:∀n yn,look o n=some yn→n∉[m]→(∃y',look ((c,y)::fv o m) n=some y')∧cu (cu ρ m none) c l n=ρ n:=by
 intro n yn hn bj;have nv:n≠m:=by simpa using bj
 have:=H.lt hn;exact⟨⟨yn,by rw[aJ,if_neg om,dy,if_neg nv];exact hn⟩,by rw[bd _ _ om,bd _ _ nv]⟩
theorem FP {xs:List (List TV)}:∀{op:List (Nat×List TV)} {es:List (List TV)},(∀p∈op,p.1<es.length)→cF (es++xs) op=cF es op++xs∧(cF es op).length=es.length
 |[],_,_=>⟨rfl,rfl⟩
 |p::l,es,h=>by
  obtain⟨a,b⟩:=FP (xs:=xs) (op:=l) (es:=es) fun q hq=>h q (List.mem_cons_of_mem _ hq);have:=h p List.mem_cons_self;exact⟨by rw[cF,cF,a,List.set_append_left _ _ om],by rw[cF,List.length_set,b]⟩
theorem PU {es xs:List (List TV)} {q:Nat×List TV} {op:List (Nat×List TV)} (h:∀p∈op,p.1<es.length):cF (es++xs) ((es.length+q.1,q.2)::op)=cF es op++cF xs [q]:=by
 obtain⟨a,b⟩:=FP (xs:=xs) h;rw[cF,a,List.set_append_right _ _ om,b];simp[cF]
theorem dH.XF {l:List TV} {m:List Value} (H:dH c ρ F h l m) (ho:∀t∈l,yD t=true):m.all M.fq=true:=vz (List.all_eq_true.2 ho) H
theorem kg (H:Mem X ρ F o c h) {st xt elem:TypeId} {n bytes:Nat} {xs:List (List TV)} {op:List (Nat×List TV)} {sv xv:Value} {F1:Nat→Prop} {o1:Ob} {hZ:Gh} {y1 y2:TO} {ns:List Nat} (A:BE E st xt elem n bytes) (mg:0<n) (hlen:l5 xv=some xs.length)
 (kH:xs=[]∨∃new,fh h n xs.length xv=some new∧(op=[]→ER c ρ F h n xs new)∧new.length=xs.length*n∧(∀e∈xs,e.length=n)∧dH c ρ F h (cF xs op).flatten new)
 (fin:∀v h',bD E X.base h st xt sv xv=some (v,h')→c7 E X.base af p h=some (.val v,h')) (hp:aI E af p=none) (hq:bG E af p=none) (eC:bc E af p=none)
 (M1:Mem X hZ F1 o1 c h) (k1:∀t v,VR c ρ F h t v→VR c hZ F1 h t v) (f1:∀b,F b→F1 b) (w1:∀m y,look o m=some y→m∉ns→(∃y',look o1 m=some y')∧hZ m=ρ m)
 (vB:sv= .slice none 0 0∨∃b oo cs,F b∧h.rd b=some cs∧oo≤cs.length∧sv= .slice (some ⟨b,oo,some n⟩) 0 0) (dr:(xs.length+1)*(bytes+1)≤1099511627776)
 (IZ:xs=[]→∀(c:Nat) (ρ:Gh) (F:Nat→Prop) (m:Nat),ρ m=some (.nil n)→OR c ρ F h X.base m [] y1)
 (kT:∀new,(op=[]→ER c hZ F1 h n xs new)→new.length=xs.length*n→(∀e∈xs,e.length=n)→dH c hZ F1 h (cF xs op).flatten new→Mem X (cu hZ c (some (.arr h.size n xs.length))) F1 ((c,y1)::o1) (c+1) (h.push (.cells new h.size h.size 0))∧∀t v,VR c hZ F1 h t v→VR (c+1) (cu hZ c (some (.arr h.size n xs.length))) F1 (h.push (.cells new h.size h.size 0)) t v)
 (fl:∀{hZ:Gh} {F1:Nat→Prop} {h1:ab},Mem X hZ F1 ((c,y1)::o1) (c+1) h1→∃F',Mem X hZ F' ((c,y2)::o1) (c+1) h1∧(∀t v,VR (c+1) hZ F1 h1 t v→VR (c+1) hZ F' h1 t v)∧∀b,F1 b→F' b)
 (hK:K (.tk c) ((c,y2)::o1) (c+1) (.dp ns)):eV E X ρ F o c af h p K:=by
 have HM:∀m y,look o m=some y→m≠c:=fun m y hl=>by have:=H.lt hl;omega
 by_cases fT:xs.length=0
 ·have RX:xs=[]:=List.length_eq_zero_iff.1 fT;obtain⟨M2,k2⟩:=M1.PR (y:=y1) (z:=n) (IZ RX);obtain⟨F3,M3,k3,f3⟩:=fl M2;have wq:bD E X.base h st xt sv xv=some (sv,h):=by
   refine xf A ?_ ?_ ?_ (by rw[hlen,fT])
   ·rcases vB with rfl |⟨b,oo,cs,_,_,_,rfl⟩<;>rfl
   ·rintro l k e;rcases vB with rfl |⟨b,oo,cs,_,_,_,rfl⟩<;>cases e;exact⟨rfl,rfl⟩
   ·rintro b oo sp l k e;rcases vB with rfl |⟨b,oo,cs,_,_,_,rfl⟩<;>cases e;rfl
  refine eV.dp H hp hq eC (fin _ _ wq) ⟨M3,fun t x hx=>k3 t x (k2 t x (k1 t x hx)),Nat.le_refl _,fun b hb=>f3 b (f1 b hb),fun _ _ _ hr=>hr⟩ ?_ (fun m y hl hm=>⟨?_,?_,fun b _=>⟨rfl,fun _ hr=>hr⟩⟩) hK
  ·refine .tk om (by rcases vB with rfl |⟨b,oo,cs,_,_,_,rfl⟩<;>rfl) (fun b z len hx=>?_) (fun z hx=>?_)
   ·rw[aK]at hx;cases hx
   ·rw[aK]at hx;cases hx;rcases vB with rfl |⟨b,oo,cs,q1,q2,q3,rfl⟩
    ·exact .inl rfl
    ·exact .inr ⟨b,oo,cs,f3 _ (f1 _ q1),q2,mg,q3,rfl⟩
  ·rw[aJ,if_neg (HM m y hl).symm];exact(w1 m y hl hm).1
  ·rw[bd _ _ (HM m y hl)];exact(w1 m y hl hm).2
 ·rcases kH with e|⟨new,KW,hE,yv,KS,hV⟩
  ·subst e;simp at fT
  ·obtain⟨M2,k2⟩:=kT new (fun e=>(hE e).mono k1) yv KS (hV.qh k1);obtain⟨F3,M3,k3,f3⟩:=fl M2;have wq:bD E X.base h st xt sv xv=some (fresh h new n xs.length):=by
    rcases vB with rfl |⟨b,oo,cs,_,q2,q3,rfl⟩
    ·exact PS A hlen fT dr KW yv
    ·have:=Dt (base:=X.base) (sl:=0) (old:=[]) (b:=b) (oo:=oo) A hlen fT (by simpa using dr) KW yv (by simp[M.ae,q2,takeN]);simpa using this
   refine eV.dp H hp hq eC (fin _ _ wq) ⟨M3,fun t x hx=>k3 t x (k2 t x (k1 t x hx)),by show h.size≤h.size+1;omega,fun b hb=>f3 b (f1 b hb),fun b cs hb hr=>(eB H.wf.le _ (H.Hy hb)).trans hr⟩ ?_ (fun m y hl hm=>⟨?_,?_,fun b hb=>?_⟩) hK
   ·refine .tk om rfl (fun b z len hx=>?_) (fun z hx=>?_)
    ·rw[aK]at hx;cases hx;exact⟨_,om,rfl⟩
    ·rw[aK]at hx;cases hx
   ·rw[aJ,if_neg (HM m y hl).symm];exact(w1 m y hl hm).1
   ·rw[bd _ _ (HM m y hl)];exact(w1 m y hl hm).2
   ·have:=H.wZ hl hb;exact⟨by rw[ab.ao,if_neg om],fun cs hr=>by rw[eB H.wf.le _ this];exact hr⟩
theorem HP (H:Mem X ρ F o c h) {st xt elem:TypeId} {z bytes:Nat} {xs:List (List TV)} {xv:Value} {S:Nat→Ft} (K0:MO X ρ F o c h S) {m b f t0 eX aO len cap l0:Nat} {w:Bool} {y y2:TO} {Sq:Ft} {cs new:List Value} (A:BE E st xt elem z bytes) (hlen:l5 xv=some xs.length) (fT:xs.length≠0)
 (fin:∀v h',bD E X.base h st xt (.slice (some ⟨b,0,some z⟩) len cap) xv=some (v,h')→c7 E X.base af p h=some (.val v,h')) (hp:aI E af p=none) (hq:bG E af p=none) (eC:bc E af p=none)
 (hl:look o m=some y) (hS:S m=(f,w)::Sq) (hb:ρ m=some (.arr b z l0)) (hg:h.get b=some (.cells cs f t0 eX)) (hf:h.dA b=some (f,b,aO)) (ht:aO≤b) (dS:X.base≤f) (_:0<z) (IL:len*z≤cs.length) (hlw:cs.length=len*z∨w=true) (gD:len≤cap)
 (dr:(len+xs.length+1)*(bytes+1)≤1099511627776) (KW:fh h z xs.length xv=some new) (yv:new.length=xs.length*z) (kA:new.all fq=true) (hw:w=true∨Sq=[])
 (uI:∀{c':Nat} {ρ':Gh} {F':Nat→Prop} {h':ab} {b' f' t1 vS tc:Nat} {T:Nat→Prop},(∀t v,VR c ρ F h t v→VR c' ρ' F' h' t v)→(∀b,F b→F' b)→(∀b cs,F b→h.rd b=some cs→h'.rd b=some cs)→(∀b,b<h.size→¬T (hd h b)→h'.get b=h.get b)→(∀x∈dk Sq,¬T x)→
  ρ' c=some (.arr b' z (len+xs.length))→h'.get b'=some (.cells (cs.take (len*z)++new) f' t1 vS)→h'.dA b'=some (f',b',tc)→tc≤b'→X.base≤f'→(w=false→F' b')→OR c' ρ' F' h' X.base c ((f',w)::Sq) y2)
 (hK:K (.tk c) ((c,y2)::fv o m) (c+1) (.dp [m])):eV E X ρ F o c af h p K:=by
 have fW:=dO hf ht (az hg);have vp:M.ae h b 0 (len*z)=some (cs.take (len*z)):=by
  simp only[M.ae,fW,Option.bind_some,List.drop_zero,aU];simp[IL]
 obtain⟨c0,bP⟩:=bI hf;simp only at bP;have yE:f∈dk (S m):=by rw[hS];exact List.mem_cons_self
 have nw:=K0.Bq m _ hl;rw[hS]at nw;obtain⟨n1,n2⟩:=List.nodup_cons.1 nw;by_cases bU:cap=len
 ·subst bU;have wq:=Dt (base:=X.base) A hlen fT dr KW yv vp;have TZ:(h.push (.cells (cs.take (cap*z)++new) h.size h.size 0)).get h.size=some (.cells (cs.take (cap*z)++new) h.size h.size 0):=by rw[ab.ao,if_pos rfl]
  have cX:∀b cs',F b→h.rd b=some cs'→(h.push (.cells (cs.take (cap*z)++new) h.size h.size 0)).rd b=some cs':=fun b cs' hb hr=>(eB H.wf.le _ (H.Hy hb)).trans hr;have Mh:∀b,b<h.size→(h.push (.cells (cs.take (cap*z)++new) h.size h.size 0)).get b=h.get b:=fun b hb=>by rw[ab.ao,if_neg om]
  have aaL:∀F3,(∀b,F b→F3 b)→Mem X (cu (cu ρ m none) c (some (.arr h.size z (cap+xs.length)))) F3 ((c,y2)::fv o m) (c+1) (h.push (.cells (cs.take (cap*z)++new) h.size h.size 0))→(∀t x,VR c ρ F h t x→VR (c+1) (cu (cu ρ m none) c (some (.arr h.size z (cap+xs.length)))) F3 (h.push (.cells (cs.take (cap*z)++new) h.size h.size 0)) t x)→eV E X ρ F o c af h p K:=by
   intro F3 f3 M3 k3;refine eV.dp H hp hq eC (fin _ _ wq) ⟨M3,k3,by show h.size≤h.size+1;omega,f3,cX⟩ ?_ (fun n y vZ bj=>?_) hK
   ·refine .tk om rfl (fun b' z' len hx=>?_) (fun z hx=>?_)
    ·rw[aK]at hx;cases hx;exact⟨cap+xs.length+1,om,by simp⟩
    ·rw[aK]at hx;cases hx
   ·obtain⟨q1,q2⟩:=so H (y:=y2) (l:=some (.arr h.size z (cap+xs.length))) n y vZ bj;have bF:=fun b' bL=>H.wZ (b:=b') vZ bL;exact⟨q1,q2,fun b' bL=>⟨Mh b' (bF b' bL),fun cs hr=>(eB H.wf.le _ (bF b' bL)).trans hr⟩⟩
  have aaM:Wf (h.push (.cells (cs.take (cap*z)++new) h.size h.size 0)):=H.wf.push fun cs f cO aO e=>by cases e;exact Nat.le_refl _
  obtain⟨M3,k3⟩:=H.RW K0 (S0:=(h.size,w)::Sq) (y':=y2) (q:=.arr h.size z (cap+xs.length)) (h':=h.push (.cells (cs.take (cap*z)++new) h.size h.size 0)) hl hb (by rw[ab.size_push];omega) aaM Mh cX (fun p hp=>by
   rcases List.mem_cons.1 hp with rfl |hp
   ·exact .inr rfl
   ·rw[hS];exact .inl (List.mem_cons_of_mem _ hp)) (List.nodup_cons.2 ⟨fun hx=>by
    have:=(K0.eQ m _ h.size hl (by rw[hS];exact List.mem_cons_of_mem _ hx)).2.1;omega,n2⟩) (fun x hx=>by
    rw[ab.size_push];rcases List.mem_cons.1 hx with rfl |hx
    ·simp
    ·have:=(K0.eQ m _ x hl (by rw[hS];exact List.mem_cons_of_mem _ hx)).2.1;omega) (!w) (fun XG=>by
    have G4:w=false:=by simpa using XG
    subst G4;have hSq:Sq=[]:=by rcases hw with h|h;cases h;exact h
    subst hSq;exact⟨by rw[dO (bH TZ TZ) (Nat.zero_le _) (az TZ)];rfl,b5 TZ,by simp⟩) (by simp) fun hm=>
   uI (T:=fun _=>False) hm (fun _ h=>.inl h) cX (fun b hb _=>Mh b hb) (fun _ _ hf=>hf.elim) (aK _ _ _) TZ (bH TZ TZ) (Nat.zero_le _) H.l8 (fun h=>.inr ⟨by simp[h],rfl⟩)
  exact aaL _ (fun _ h=>.inl h) M3 k3
 ·have wq:=PT (base:=X.base) (cap:=cap) A hlen fT dr KW yv vp bU (az hg) hf dS kA;obtain⟨c6,EI⟩:∃t,t=(bif Nat.beq (len*z) cs.length then aO else h.size):=⟨_,rfl⟩;rw[←EI]at wq;have K9:=H.wf.lt hg;have XH:c6≤h.size:=by cases KK:Nat.beq (len*z) cs.length<;>rw[KK]at EI<;>simp only[cond_true,cond_false]at EI<;>omega
  have XI:c6=aO∨w=true:=by
   rcases hlw with e|e
   ·left;rw[EI,e,show Nat.beq (len*z) (len*z)=true from beq_iff.2 rfl];rfl
   ·exact .inr e
  have Mi:∀x,x<h.size→hd h x≠f→(dW h f c6 (cs.take (len*z)++new)).get x=h.get x:=fun x hx VZ=>by
   rw[ext_get bP,if_neg om,if_neg];intro e;subst e;exact VZ (b5 bP)
  have aaN:∀x cs',F x→h.rd x=some cs'→(dW h f c6 (cs.take (len*z)++new)).rd x=some cs':=fun x cs' hx hr=>by
   rcases XI with e|e
   ·rw[e];exact LW H.wf bP hr
   ·exact jl H.wf Mi (K0.apart m _ f x hl (by rw[hS,e];exact List.mem_cons_self) hx) hr
  obtain⟨M2,k2⟩:=H.Xg K0 c6 (len':=len+xs.length) (cs':=cs.take (len*z)++new) (y':=y2) hl hS hb hg hf ht XH XI fun hm same cX tz hfc=>
   uI (T:=fun x=>x=f) hm (fun _ h=>.inl h) cX same (fun x hx e=>n1 (by subst e;exact hx)) (aK _ _ _) tz hfc XH dS (fun hw=>.inr ⟨hw,rfl⟩)
  refine eV.dp H hp hq eC (fin _ _ wq) ⟨M2,k2,by rw[sc];omega,fun _ h=>.inl h,aaN⟩ ?_ (fun n y vZ bj=>?_) hK
  ·refine .tk om rfl (fun b' z' len hx=>?_) (fun z hx=>?_)
   ·rw[aK]at hx;cases hx;exact⟨_,om,rfl⟩
   ·rw[aK]at hx;cases hx
  ·obtain⟨q1,q2⟩:=so H (y:=y2) (l:=some (.arr h.size z (len+xs.length))) n y vZ bj;have nv:n≠m:=by simpa using bj
   refine⟨q1,q2,fun b' bL=>?_⟩;obtain⟨bF,hh⟩:=H.BC K0 vZ bL;have XJ:hd h b'≠f:=fun e=>by
    rw[e]at hh;exact nv (K0.eY n m _ _ _ vZ hl hh yE)
   exact⟨Mi b' bF XJ,fun cs hr=>jl H.wf Mi XJ hr⟩
theorem FQ (H:Mem X ρ F o c h) {st xt elem:TypeId} {z bytes:Nat} {xs:List (List TV)} {xv:Value} {S:Nat→Ft} (K0:MO X ρ F o c h S) {m b f t0 eX aO len cap:Nat} {w:Bool} {y y2:TO} {Sq:Ft} {cs new:List Value} (A:BE E st xt elem z bytes) (hlen:l5 xv=some xs.length) (fT:xs.length≠0)
 (fin:∀v h',bD E X.base h st xt (.slice (some ⟨b,0,some z⟩) len cap) xv=some (v,h')→c7 E X.base af p h=some (.val v,h')) (hp:aI E af p=none) (hq:bG E af p=none) (eC:bc E af p=none)
 (hl:look o m=some y) (hS:S m=(f,w)::Sq) (hb:ρ m=some (.arr b z len)) (hg:h.get b=some (.cells cs f t0 eX)) (hf:h.dA b=some (f,b,aO)) (ht:aO≤b) (dS:X.base≤f) (hz:0<z) (IL:cs.length=len*z) (gD:len≤cap)
 (dr:(len+xs.length+1)*(bytes+1)≤1099511627776) (KW:fh h z xs.length xv=some new) (yv:new.length=xs.length*z) (kA:new.all fq=true) (hw:w=true∨Sq=[])
 (uI:∀{c':Nat} {ρ':Gh} {F':Nat→Prop} {h':ab} {b' f' t1 vS tc:Nat} {T:Nat→Prop},(∀t v,VR c ρ F h t v→VR c' ρ' F' h' t v)→(∀b,F b→F' b)→(∀b cs,F b→h.rd b=some cs→h'.rd b=some cs)→(∀b,b<h.size→¬T (hd h b)→h'.get b=h.get b)→(∀x∈dk Sq,¬T x)→
  ρ' c=some (.arr b' z (len+xs.length))→h'.get b'=some (.cells (cs++new) f' t1 vS)→h'.dA b'=some (f',b',tc)→tc≤b'→X.base≤f'→(w=false→F' b')→OR c' ρ' F' h' X.base c ((f',w)::Sq) y2)
 (hK:K (.tk c) ((c,y2)::fv o m) (c+1) (.dp [m])):eV E X ρ F o c af h p K:=by
 have e:cs.take (len*z)=cs:=List.take_of_length_le om;exact HP H K0 A hlen fT fin hp hq eC hl hS hb hg hf ht dS hz om (.inl IL) gD dr KW yv kA hw (by rw[e];exact uI) hK
theorem Du (L:ck T E) (H:Mem X ρ F o c h) {st xt:TypeId} {l:Int} {sv:Value} {fl:Bool} (hw:wC T st xt l o c K) (hs:VR c ρ F h (.sl 0 [] fl) sv) (hp:aI E af p=none) (hq:bG E af p=none) (eC:bc E af p=none)
 (fin:∀v h',im E h st xt sv (.int .i64 l)=some (v,h')→c7 E X.base af p h=some (.val v,h')):eV E X ρ F o c af h p K:=by
 have HM:∀m y,look o m=some y→m≠c:=fun m y hl=>by have:=H.lt hl;omega
 have e:sv= .slice none 0 0:=by
  cases hs with
  |nil=>rfl
  |sl q1 q2 q3=>omega
 subst e;unfold wC at hw;split at hw
 ·rename_i elem k hd KU;split at hw
  ·rename_i n bytes z hn EH hz;obtain⟨jL,nq⟩:=L.zero _ _ hz;split at hw
   ·rename_i zs hc jj;simp only[Bool.and_eq_true,beq_iff,aR]at hc;obtain⟨⟨j5,sW⟩,FR⟩:=hc;split at hw
    ·rename_i O8;obtain⟨⟨b1,b2⟩,hK⟩:=hw;have dr:(l.toNat+1)*(bytes+1)≤1099511627776:=size_le om FR;have qB:=fP (c:=c) (ρ:=ρ) (F:=F) (h:=h) nq jj;have Jf:zs.length=n:=by have:=qB.1;simp only[Array.length_toList]at this;omega
     have hE:=ER.replicate qB Jf O8 l.toNat
     obtain⟨M2,k2⟩:=H.Bs hE sW;have wq:im E h st xt (.slice none 0 0) (.int .i64 l)=some (fresh h (aP z.cells.toList l.toNat) n l.toNat):=by
      unfold im;rw[L.desc _ _ hd,L.desc _ _ KU];simp only[Option.bind_some,L.size _ _ hn,L.bytes _ _ EH,jL];simp only[kj,j5,bC];rw[show Nat.beq n n=true from beq_iff.2 rfl,show Nat.blt 0 n=true from aR.2 sW,show Nat.blt 0 l.toNat=true from aR.2 om,aG.2 dr];rfl
     rw[List.length_replicate]at M2 k2;refine eV.dp H hp hq eC (fin _ _ wq) ⟨M2,k2,by show h.size≤h.size+1;omega,fun _ h=>h,fun b cs hb hr=>(eB H.wf.le _ (H.Hy hb)).trans hr⟩ ?_ (fun m y hl hm=>⟨?_,?_,fun b hb=>?_⟩) hK
     ·refine .tk om rfl (fun b z len hx=>?_) (fun z hx=>?_)
      ·rw[aK]at hx;cases hx;exact⟨_,om,rfl⟩
      ·rw[aK]at hx;cases hx
     ·rw[aJ,if_neg (HM m y hl).symm];exact⟨y,hl⟩
     ·rw[bd _ _ (HM m y hl)]
     ·have:=H.wZ hl hb;exact⟨by rw[ab.ao,if_neg om],fun cs hr=>by rw[eB H.wf.le _ this];exact hr⟩
    ·exact hw.elim
   ·exact hw.elim
  ·exact hw.elim
 ·exact hw.elim
theorem FT (L:ck T E) (H:Mem X ρ F o c h) {st xt:TypeId} {s x:TV} {sv xv:Value} (hw:Bf T st xt s x o c K) (hs:VR c ρ F h s sv) (hx:VR c ρ F h x xv) (hp:aI E af p=none) (hq:bG E af p=none) (eC:bc E af p=none)
 (fin:∀v h',bD E X.base h st xt sv xv=some (v,h')→c7 E X.base af p h=some (.val v,h')):eV E X ρ F o c af h p K:=by
 have w0:∀m y,look o m=some y→m∉([]:List Nat)→(∃y',look o m=some y')∧ρ m=ρ m:=fun m y hl _=>⟨⟨y,hl⟩,rfl⟩
 -- a slice without elements
 have emp:∀{z n:Nat},z=n∨z=0→VR c ρ F h (.sl z [] true) sv→sv= .slice none 0 0∨∃b oo cs,F b∧h.rd b=some cs∧oo≤cs.length∧sv= .slice (some ⟨b,oo,some n⟩) 0 0:=by
  intro z n hz hs;cases hs with
  |nil=>exact .inl rfl
  |sl q1 q2 q3 q4 q5 q6 q7 q8 q9 RP=>
   have PJ:z=n:=by omega
   subst PJ;simp at q4;subst q4;rw[q6 rfl];exact .inr ⟨_,_,_,q1,q2,om,rfl⟩
 have XK:∀{y:TO} {o1:Ob} {hZ:Gh} {F1:Nat→Prop} {h1:ab},Mem X hZ F1 ((c,y)::o1) (c+1) h1→∃F',Mem X hZ F' ((c,y)::o1) (c+1) h1∧(∀t v,VR (c+1) hZ F1 h1 t v→VR (c+1) hZ F' h1 t v)∧∀b,F1 b→F' b:=
  fun {y o1 hZ F1 h1} M=>⟨F1,M,fun _ _ h=>h,fun _ h=>h⟩
 have closed:∀{e:List TV},(∀t∈e,fz t=true)→∀t∈e,lZ t=true:=fun {e} he t ht=>by
  have:=he t ht;unfold lZ;split<;>first|rfl |exact this
 unfold Bf at hw;split at hw
 ·rename_i elem acI Y9 KU;split at hw
  ·rename_i n bytes z0 zx xs hn EH Cp EL;split at hw
   ·rename_i hc;simp only[Bool.and_eq_true,beq_iff,aR,Bool.or_eq_true]at hc;obtain⟨⟨⟨T5,mg⟩,hzx⟩,FR⟩:=hc;have size:∀{k:Nat},k<1048576→(k+1)*(bytes+1)≤1099511627776:=fun {k} hk=>size_le hk FR;have A:BE E st xt elem n bytes:=⟨L.desc _ _ Y9,⟨_,L.desc _ _ KU⟩,L.size _ _ hn,L.bytes _ _ EH,_,(L.zero _ _ Cp).1,T5⟩;obtain⟨hlen,_,RY,kH⟩:=oX H EL (hzx.imp id fun h=>⟨h,rfl⟩) (by simp) hx
    have T6:∀{hZ:Gh} {F1:Nat→Prop} {o1:Ob},Mem X hZ F1 o1 c h→∀new,(([]:List (Nat×List TV))=[]→ER c hZ F1 h n xs new)→new.length=xs.length*n→(∀e∈xs,e.length=n)→dH c hZ F1 h (cF xs []).flatten new→Mem X (cu hZ c (some (.arr h.size n xs.length))) F1 ((c,.arr n true xs)::o1) (c+1) (h.push (.cells new h.size h.size 0))∧∀t v,VR c hZ F1 h t v→VR (c+1) (cu hZ c (some (.arr h.size n xs.length))) F1 (h.push (.cells new h.size h.size 0)) t v:=
     fun M1 new hE _ _ _=>M1.Bs (hE rfl) mg
    split at hw
    ·rename_i z;split at hw
     ·rename_i hz;simp only[Bool.or_eq_true,beq_iff]at hz;obtain⟨dr,hK⟩:=hw;exact kg H A mg hlen kH fin hp hq eC H (fun _ _ h=>h) (fun _ h=>h) w0 (emp hz hs) (size dr) (fun e c ρ F m hm=>by subst e;exact .nil hm mg) (T6 H) XK hK
     ·exact hw.elim
    ·rename_i m;split at hw
     ·rename_i z w es hl;split at hw
      ·rename_i hz;rw[beq_iff]at hz;subst hz;obtain⟨Mj,hK⟩:=hw;have dr:=size Mj;obtain⟨S,K0⟩:=H.ex;have hO:=K0.b8 m _ hl;generalize hS:S m=Sm at hO;have HQ:=hO.tk rfl hs;cases hO with
       |nil hb jL=>
        rcases HQ with⟨_,_,vB⟩|⟨b,cap,h1,_⟩
        ·obtain⟨M1,k1⟩:=H.gone hl rfl;refine kg H (ns:=[m]) (y1:=.arr z true xs) (y2:=.arr z w xs) A mg hlen kH fin hp hq eC M1 k1 (fun _ h=>h) (fun n y vZ bj=>?_) (vB.imp id fun⟨b,o',cs,q1,q2,q3,q4,q5⟩=>⟨b,o',cs,q1,q2,q4,q5⟩) (by simpa using dr) (fun e c ρ F m hm=>by subst e;exact .nil hm mg) (T6 M1) (fun M=>M.flag w) (by simpa using hK);have nv:n≠m:=by simpa using bj
         exact⟨⟨y,by rw[dy,if_neg nv];exact vZ⟩,bd _ _ nv⟩
        ·rw[hb]at h1;cases h1
       |arr hb hg hf ht dS jL cE lS gU hc hF=>
        rename_i b f t0 eX aO cs;rcases HQ with⟨_,h1,_⟩|⟨b',cap,h1,gD,rfl⟩
        ·rw[hb]at h1;cases h1
        ·rw[hb]at h1;cases h1;by_cases fT:xs.length=0
         ·have RX:xs=[]:=List.length_eq_zero_iff.1 fT;subst RX;obtain⟨M2,k2⟩:=H.rename hl hb
          have wq:bD E X.base h st xt (.slice (some ⟨b,0,some z⟩) es.length cap) xv=some (.slice (some ⟨b,0,some z⟩) es.length cap,h):=
           xf A rfl (by rintro l k e;cases e) (by rintro b oo sp l k e;cases e;rfl) hlen
          rw[List.append_nil]at hK;refine eV.dp H hp hq eC (fin _ _ wq) ⟨M2,k2,Nat.le_refl _,fun _ h=>h,fun _ _ _ hr=>hr⟩ ?_ (fun n y vZ bj=>?_) hK
          ·refine .tk om rfl (fun b' z' len hx=>?_) (fun z hx=>?_)
           ·rw[aK]at hx;cases hx;exact⟨_,gD,rfl⟩
           ·rw[aK]at hx;cases hx
          ·obtain⟨q1,q2⟩:=so H (y:=.arr z w es) (l:=some (.arr b z es.length)) n y vZ bj;exact⟨q1,q2,fun b' _=>⟨rfl,fun _ hr=>hr⟩⟩
         ·rcases kH with e|⟨new,kT,hE,yv,KS,hV⟩
          ·subst e;simp at fT
          ·have hEE:ER c ρ F h z (es++xs) (cs++new):=ER.append ⟨cE,lS,gU,hc⟩ (hE rfl);refine FQ H K0 (y2:=.arr z w (es++xs)) A hlen fT fin hp hq eC hl hS hb hg hf ht dS jL cE gD dr kT yv ((hE rfl).fq jL) (.inr rfl) (fun hm qi cX same hT FU km yz PV Dv O5=>?_) hK;exact OR.LU (by rw[List.length_append];exact FU) km yz PV Dv jL (hEE.mono hm) O5
      ·exact hw.elim
     ·rename_i z es Hl hl;split at hw
      ·rename_i hz;rw[beq_iff]at hz;subst hz;obtain⟨Mj,hK⟩:=hw;have dr:=size Mj;obtain⟨S,K0⟩:=H.ex;have hO:=K0.b8 m _ hl;generalize hS:S m=Sm at hO;have HQ:=hO.tk rfl hs;cases hO with
       |gq hb jL=>
        rcases HQ with⟨_,_,vB⟩|⟨b,cap,h1,_⟩
        ·obtain⟨M1,k1⟩:=H.gone hl rfl;refine kg H (ns:=[m]) (y1:=.bV z xs []) (y2:=.bV z xs []) A mg hlen kH fin hp hq eC M1 k1 (fun _ h=>h) (fun n y vZ bj=>?_) (vB.imp id fun⟨b,o',cs,q1,q2,q3,q4,q5⟩=>⟨b,o',cs,q1,q2,q4,q5⟩) (by simpa using dr) (fun e c ρ F m hm=>by subst e;exact .gq hm mg) (fun new hE h1 h2 h3=>?_) XK (by simpa using hK)
         ·have nv:n≠m:=by simpa using bj
          exact⟨⟨y,by rw[dy,if_neg nv];exact vZ⟩,bd _ _ nv⟩
         ·exact M1.Fw ⟨h1,h2,fun e he=>closed (RY e he),by simp,cI.kC h3⟩ mg
        ·rw[hb]at h1;cases h1
       |bV hb hg hf ht dS jL cE lS bU jK hc=>
        rename_i Sq b f t0 eX aO cs;rcases HQ with⟨_,h1,_⟩|⟨b',cap,h1,gD,rfl⟩
        ·rw[hb]at h1;cases h1
        ·rw[hb]at h1;cases h1;by_cases fT:xs.length=0
         ·have RX:xs=[]:=List.length_eq_zero_iff.1 fT;subst RX;obtain⟨M2,k2⟩:=H.rename hl hb
          have wq:bD E X.base h st xt (.slice (some ⟨b,0,some z⟩) es.length cap) xv=some (.slice (some ⟨b,0,some z⟩) es.length cap,h):=
           xf A rfl (by rintro l k e;cases e) (by rintro b oo sp l k e;cases e;rfl) hlen
          rw[List.append_nil]at hK;refine eV.dp H hp hq eC (fin _ _ wq) ⟨M2,k2,Nat.le_refl _,fun _ h=>h,fun _ _ _ hr=>hr⟩ ?_ (fun n y vZ bj=>?_) hK
          ·refine .tk om rfl (fun b' z' len hx=>?_) (fun z hx=>?_)
           ·rw[aK]at hx;cases hx;exact⟨_,gD,rfl⟩
           ·rw[aK]at hx;cases hx
          ·obtain⟨q1,q2⟩:=so H (y:=.bV z es Hl) (l:=some (.arr b z es.length)) n y vZ bj;exact⟨q1,q2,fun b' _=>⟨rfl,fun _ hr=>hr⟩⟩
         ·rcases kH with e|⟨new,kT,hE,yv,KS,hV⟩
          ·subst e;simp at fT
          ·refine FQ H K0 (y2:=.bV z (es++xs) Hl) A hlen fT fin hp hq eC hl hS hb hg hf ht dS jL cE gD dr kT yv ((hE rfl).fq jL) (.inl rfl) (fun hm qi cX same hT FU km yz PV Dv O5=>?_) hK;refine OR.TH (by rw[List.length_append];exact FU) km yz PV Dv jL ⟨by simp[cE,yv,Nat.add_mul],fun e he=>?_,fun e he=>?_,fun p hp=>⟨by have:=(jK p hp).1;simp;omega,(jK p hp).2⟩,?_⟩
           ·rcases List.mem_append.1 he with h1|h1
            ·exact lS e h1
            ·exact KS e h1
           ·rcases List.mem_append.1 he with h1|h1
            ·exact bU e h1
            ·exact closed (RY e h1)
           ·have:=(hc.bk H.wf same qi cX hm hT).join (cI.kC (base:=X.base) (hV.qh hm));rw[List.append_nil]at this;rw[(FP fun p hp=>(jK p hp).1).1,List.flatten_append];exact this
      ·exact hw.elim
     ·exact hw.elim
    ·rename_i m k;split at hw
     ·rename_i z es hl;split at hw
      ·rename_i hz;rw[beq_iff]at hz;subst hz;obtain⟨⟨V4,Mj,RX⟩,hK⟩:=hw;have dr:=size Mj;have fT:xs.length≠0:=fun e=>RX (List.length_eq_zero_iff.1 e);obtain⟨S,K0⟩:=H.ex;have hO:=K0.b8 m _ hl;generalize hS:S m=Sm at hO;cases hs with
       |pv yx pF ha h0=>
       cases hO with
       |nil hb jL=>
        have vB:=h0 _ hb;have IW:k=0:=by simpa using V4
        subst IW;obtain⟨M1,k1⟩:=H.gone hl rfl;refine kg H (ns:=[m]) (y1:=.arr z true xs) (y2:=.arr z true xs) A mg hlen kH fin hp hq eC M1 k1 (fun _ h=>h) (fun n y hl bj=>?_) (vB.imp id fun⟨b,o',cs,q1,q2,q3,q4,q5⟩=>⟨b,o',cs,q1,q2,q4,q5⟩) (by simpa using dr) (fun e c ρ F m hm=>by subst e;exact .nil hm mg) (T6 M1) XK (by simpa using hK);have nv:n≠m:=by simpa using bj
        exact⟨⟨y,by rw[dy,if_neg nv];exact hl⟩,bd _ _ nv⟩
       |arr hb hg hf ht dS jL cE lS gU hc hF=>
        rename_i b f t0 eX aO cs;obtain⟨cap,gD,rfl⟩:=ha _ _ _ hb;rcases kH with e|⟨new,kT,hE,yv,KS,hV⟩
        ·exact absurd e RX
        ·have hkz:k*z≤cs.length:=by rw[cE];exact Nat.mul_le_mul_right _ V4
         have hEE:ER c ρ F h z (es.take k++xs) (cs.take (k*z)++new):=ER.append (ER.take ⟨cE,lS,gU,hc⟩ V4) (hE rfl);refine HP H K0 (y2:=.arr z true (es.take k++xs)) A hlen fT fin hp hq eC hl hS hb hg hf ht dS jL hkz (.inr rfl) gD dr kT yv ((hE rfl).fq jL) (.inl rfl) (fun hm qi cX same hT FU km yz PV Dv O5=>?_) hK;exact OR.LU (by rw[List.length_append,List.length_take,Nat.min_eq_left V4];exact FU) km yz PV Dv jL (hEE.mono hm) O5
      ·exact hw.elim
     ·exact hw.elim
    ·exact hw.elim
   ·exact hw.elim
  ·rename_i n bytes z0 zx xs q hn EH Cp EL;split at hw
   ·rename_i hc;simp only[Bool.and_eq_true,beq_iff,aR]at hc;obtain⟨⟨⟨⟨T5,mg⟩,rfl⟩,FR⟩,nq,aaP⟩:=hc;have size:∀{k:Nat},k<1048576→(k+1)*(bytes+1)≤1099511627776:=fun {k} hk=>size_le hk FR;have A:BE E st xt elem zx bytes:=⟨L.desc _ _ Y9,⟨_,L.desc _ _ KU⟩,L.size _ _ hn,L.bytes _ _ EH,_,(L.zero _ _ Cp).1,T5⟩;obtain⟨hlen,XL,RY,kH⟩:=oX H EL (.inl rfl) (by simpa using nq) hx;obtain⟨o1,o2⟩:=XL q (by simp);have fT:xs.length≠0:=by omega
    have XM:∀{hZ:Gh} {F1:Nat→Prop} {o1:Ob},Mem X hZ F1 o1 c h→∀new,([q]=[]→ER c hZ F1 h zx xs new)→new.length=xs.length*zx→(∀e∈xs,e.length=zx)→dH c hZ F1 h (cF xs [q]).flatten new→Mem X (cu hZ c (some (.arr h.size zx xs.length))) F1 ((c,.bV zx xs [q])::o1) (c+1) (h.push (.cells new h.size h.size 0))∧∀t v,VR c hZ F1 h t v→VR (c+1) (cu hZ c (some (.arr h.size zx xs.length))) F1 (h.push (.cells new h.size h.size 0)) t v:=
     fun M1 new _ h1 h2 h3=>M1.Fw ⟨h1,h2,fun e he=>closed (RY e he),XL,cI.kC h3⟩ mg
    have XN:∀{new:List Value},dH c ρ F h (cF xs [q]).flatten new→new.length=xs.length*zx→new.all fq=true:=by
     intro new hV _;refine dH.XF hV fun t ht=>?_;obtain⟨e,h1,h2⟩:=List.mem_flatten.1 ht;rcases List.mem_or_eq_of_mem_set (show e∈xs.set q.1 q.2 from h1)with h3|rfl
     ·have:=RY e h3 t h2;cases t<;>first|rfl |simp[fz]at this
     ·exact List.all_eq_true.1 aaP t h2
    -- to an array that is there
    have main:∀{es:List (List TV)} {Hl:List (Nat×List TV)} {Sq:Ft} {S:Nat→Ft} {b f t0 eX aO m cap:Nat} {cs:List Value} {y:TO},MO X ρ F o c h S→look o m=some y→S m=(f,true)::Sq→ρ m=some (.arr b zx es.length)→h.get b=some (.cells cs f t0 eX)→h.dA b=some (f,b,aO)→aO≤b→X.base≤f→cs.length=es.length*zx→es.length≤cap→sv= .slice (some ⟨b,0,some zx⟩) es.length cap→
     (∀e∈es,e.length=zx)→(∀e∈es,∀t∈e,lZ t=true)→(∀p∈Hl,p.1<es.length∧p.2.length=zx)→cI c ρ F h X.base Sq (cF es Hl).flatten cs→es.length+xs.length<1048576→K (.tk c) ((c,.bV zx (es++xs) ((es.length+q.1,q.2)::Hl))::fv o m) (c+1) (.dp [m])→eV E X ρ F o c af h p K:=by
     intro es Hl Sq S b f t0 eX aO m cap cs y K0 hl hS hb hg hf ht dS cE gD vB lS bU jK hc dr hK;subst vB;rcases kH with e|⟨new,kT,_,yv,KS,hV⟩
     ·subst e;simp at fT
     ·refine FQ H K0 (y2:=.bV zx (es++xs) ((es.length+q.1,q.2)::Hl)) A hlen fT fin hp hq eC hl hS hb hg hf ht dS mg cE gD (size dr) kT yv (XN hV yv) (.inl rfl) (fun hm qi cX same hT FU km yz PV Dv O5=>?_) hK;refine OR.TH (by rw[List.length_append];exact FU) km yz PV Dv mg ⟨by simp[cE,yv,Nat.add_mul],fun e he=>?_,fun e he=>?_,fun r hr=>?_,?_⟩
      ·rcases List.mem_append.1 he with h1|h1
       ·exact lS e h1
       ·exact KS e h1
      ·rcases List.mem_append.1 he with h1|h1
       ·exact bU e h1
       ·exact closed (RY e h1)
      ·rcases List.mem_cons.1 hr with rfl |hr
       ·exact⟨by simp;omega,o2⟩
       ·have:=jK r hr;exact⟨by simp;omega,this.2⟩
      ·have:=(hc.bk H.wf same qi cX hm hT).join (cI.kC (base:=X.base) (hV.qh hm));rw[List.append_nil]at this;rw[PU fun p hp=>(jK p hp).1,List.flatten_append];exact this
    split at hw
    ·rename_i z;split at hw
     ·rename_i hz;simp only[Bool.or_eq_true,beq_iff]at hz;obtain⟨dr,hK⟩:=hw;exact kg H A mg hlen kH fin hp hq eC H (fun _ _ h=>h) (fun _ h=>h) w0 (emp hz hs) (size dr) (fun e=>by subst e;simp at fT) (XM H) XK hK
     ·exact hw.elim
    ·rename_i m;have HR:∀{y:TO},look o m=some y→yT y=true→Dk y=0→Jg y=zx→(sv= .slice none 0 0∨∃b o cs,F b∧h.rd b=some cs∧0<Jg y∧o≤cs.length∧sv= .slice (some ⟨b,o,some (Jg y)⟩) 0 0)→xs.length<1048576→K (.tk c) ((c,.bV zx xs [q])::fv o m) (c+1) (.dp [m])→eV E X ρ F o c af h p K:=by
      intro y hl hy h0 hz vB dr hK;obtain⟨M1,k1⟩:=H.gone hl hy;refine kg H (ns:=[m]) (y1:=.bV zx xs [q]) (y2:=.bV zx xs [q]) A mg hlen kH fin hp hq eC M1 k1 (fun _ h=>h) (fun n y vZ bj=>?_) (vB.imp id fun⟨b,o',cs,q1,q2,q3,q4,q5⟩=>⟨b,o',cs,q1,q2,q4,by rw[←hz];exact q5⟩) (size dr) (fun e=>by subst e;simp at fT) (XM M1) XK hK;have nv:n≠m:=by simpa using bj
      exact⟨⟨y,by rw[dy,if_neg nv];exact vZ⟩,bd _ _ nv⟩
     have Mk:vt 0 [q]=[q]:=by simp[vt]
     split at hw
     ·rename_i z es hl;split at hw
      ·rename_i hz;rw[beq_iff]at hz;subst hz;obtain⟨dr,hK⟩:=hw;obtain⟨S,K0⟩:=H.ex;have hO:=K0.b8 m _ hl;generalize hS:S m=Sm at hO;have HQ:=hO.tk rfl hs;cases hO with
       |nil hb jL=>
        rcases HQ with⟨h0,_,vB⟩|⟨b,cap,h1,_⟩
        ·exact HR hl rfl h0 rfl vB (by simpa using dr) (by simpa[Mk]using hK)
        ·rw[hb]at h1;cases h1
       |arr hb hg hf ht dS jL cE lS gU hc hF=>
        rcases HQ with⟨_,h1,_⟩|⟨b',cap,h1,gD,vB⟩
        ·rw[hb]at h1;cases h1
        ·rw[hb]at h1;cases h1;exact main (Hl:=[]) K0 hl hS hb hg hf ht dS cE gD vB lS (fun e he=>closed (gU e he)) (by simp) (cI.kC (gY cE lS hc)) dr hK
      ·exact hw.elim
     ·rename_i z es Hl hl;split at hw
      ·rename_i hz;rw[beq_iff]at hz;subst hz;obtain⟨dr,hK⟩:=hw;obtain⟨S,K0⟩:=H.ex;have hO:=K0.b8 m _ hl;generalize hS:S m=Sm at hO;have HQ:=hO.tk rfl hs;cases hO with
       |gq hb jL=>
        rcases HQ with⟨h0,_,vB⟩|⟨b,cap,h1,_⟩
        ·exact HR hl rfl h0 rfl vB (by simpa using dr) (by simpa[Mk]using hK)
        ·rw[hb]at h1;cases h1
       |bV hb hg hf ht dS jL cE lS bU jK hc=>
        rcases HQ with⟨_,h1,_⟩|⟨b',cap,h1,gD,vB⟩
        ·rw[hb]at h1;cases h1
        ·rw[hb]at h1;cases h1;exact main K0 hl hS hb hg hf ht dS cE gD vB lS bU jK hc dr hK
      ·exact hw.elim
     ·exact hw.elim
    ·exact hw.elim
   ·exact hw.elim
  ·exact hw.elim
 ·exact hw.elim
end
section
variable {T E:Env} {X:Cx} {ρ:Gh} {F:Nat→Prop} {o:Ob} {c:Nat} {af:AF} {f:Fr} {h:ab} {p:Oper} {K:OK}
theorem lU:∀{ids:List (Option Nat)} {o:Ob} {n:Nat},(∀k:Nat,ids[k]? ≠some (some n))→look (j7 ids o) n=look o n
 |[],o,n,_=>rfl
 |none::l,o,n,h=>lU (ids:=l) fun k=>by simpa using h (k+1)
 |some m::l,o,n,h=>by
  simp only[j7];rw[lU (ids:=l) fun k=>by simpa using h (k+1),dy,if_neg];intro e;subst e;exact h 0 rfl
theorem tO:∀{ids:List (Option Nat)} {n:Nat},n∉np ids→∀k:Nat,ids[k]? ≠some (some n)
 |[],n,_,k=>by simp
 |none::l,n,h,k=>by
  cases k with
  |zero=>simp
  |succ k=>simpa using tO (ids:=l) h k
 |some m::l,n,h,k=>by
  simp only[np,List.mem_cons,not_or]at h;cases k with
  |zero=>simp;exact fun e=>h.1 e.symm
  |succ k=>simpa using tO (ids:=l) h.2 k
theorem uM:∀(sh:List Nat) (o:Ob) (n:Nat) (y:TO),look o n=some y→∃y',look (M.cg sh o) n=some y'∧ef y y'
 |[],o,n,y,h=>⟨y,h,ef.refl _⟩
 |m::sh,o,n,y,h=>by
  obtain⟨y1,h1,h2⟩:=oU o m n y h;obtain⟨y2,h3,h4⟩:=uM sh _ n y1 h1;exact⟨y2,h3,h2.trans h4⟩
theorem jE (H:Mem X ρ F o c h) (sh:List Nat):∃F',oW X ρ c h F o F' (M.cg sh o):=by
 obtain⟨F',h1,h2,h3⟩:=H.cg sh;exact⟨F',h1,h2,h3,uM sh o⟩
theorem uN:∀{U:List Nat} {o:Ob} {n:Nat},n∉U→look (uG U o) n=look o n
 |[],o,n,_=>rfl
 |m::l,o,n,h=>by
  simp only[List.mem_cons,not_or]at h;simp only[uG];rw[uN h.2,dy,if_neg h.1]
theorem Ml (NX:FA E X) (H:Mem X ρ F o c h) {g:FuncId} {args:List TV} {eE:List Value} {st:Bool} (ct:st=true→FD E g) (hw:rX st (VC E) g args o c K) (ha:dH c ρ F h args eE) (hp:aI E af p=none) (hq:bG E af p=none) (eC:bc E af p=none)
 (he:c7 E X.base af p h=some (.enter g eE,h)):eV E X ρ F o c af h p K:=by
 obtain⟨sh,ids,U,Ho,o0,R,hvc,⟨jV,hO,hi⟩,hK⟩:=hw;simp only[Bool.and_eq_true]at hi;obtain⟨hi,hU⟩:=hi;obtain⟨F1,Sh⟩:=jE H sh;have H1:=Sh.mem;obtain⟨S,K1⟩:=H1.ex;obtain⟨S1,Ns,D⟩:=hO.told H1 K1 hi hU;obtain⟨hand,Mm⟩:=H1.hand K1 D;have V5:=Da (zf:=Fz o0) H1 _ _ _ jV (ha.qh Sh.bk);obtain⟨n0,v,h',ρ',F',r,o',c',gl,hR,MC,hr⟩:=hvc X.base _ F1 h S1 eE (NX.now H1) hand Mm V5;obtain⟨MM,k1,k2,k3⟩:=H1.merge K1 hi D MC;have fG:h.size≤h'.size:=MC.od.size;have PW:Raw ρ o h (p6 ids c ρ ρ') (Fv (back ids c) o'++uG U (j7 ids (cg sh o))) h' (np ids++U):=fun n y hl bj=>by
  simp only[List.mem_append,not_or]at bj;have hn:=tO bj.1;have yx:=H.lt hl;obtain⟨y1,q1,q2⟩:=Sh.wk n y hl;have Jc:=k3 n y1 q1 hn bj.2;refine⟨⟨y1,?_⟩,vw hn yx,fun b hb=>?_⟩
  ·rw[jA];split
   ·rename_i y3 h3;obtain⟨k,y4,e1,_,_⟩:=tF (fun k k'=>wM hi) h3;exfalso;unfold back at e1;split at e1
    ·rename_i m hm;subst e1;exact hn k hm
    ·omega
   ·rw[uN bj.2,lU hn];exact q1
  ·obtain⟨K9,hh⟩:=H1.BC K1 q1 hb;have XB:¬lR S1 o0 (hd h b):=Jc _ hh;have hg:=MC.od.bk b K9 XB;refine⟨hg,fun cs hr=>?_⟩;obtain⟨r,a1,a2,a3⟩:=rd_some hr;obtain⟨f1,t1,vS,oE⟩:=dI a3;obtain⟨cr,jJ⟩:=bI a1;obtain⟨ta,p1,p2,ma⟩:=dQ a1;rw[oE]at ma;cases ma;have yA:=MC.od.bk r.1 (H.wf.lt jJ) (by
    have:hd h r.1=hd h b:=by rw[b5 jJ,b5 oE]
    show¬lR S1 o0 (hd h r.1);rw[this];exact XB)
   exact dO (bH (hg.trans oE) (yA.trans jJ)) a2 (az (hg.trans oE))
 refine⟨n0,⟨v,h',.dp h h'⟩,r.lP (back ids c),_,_,_,F',TC st o0 (np ids++U),fun n hn=>?_,hK r o' c' hR,⟨MM,fun t x hx=>k1 t x (Sh.bk t x hx),fG,fun b hb=>MC.F0 b (Sh.FF b hb),fun b cs hb fW=>(MC.od.cX b (Sh.FF b hb)).trans fW⟩,k2 _ _ hr,?_⟩
 ·unfold eL;rw[hp,hq,eC,he];simp only
  rw[wT hn _ _ _ _ gl];rfl
 ·unfold TC;split
  ·rename_i hs;exact .n9 PW (ct rfl _ _ _ _ _ _ gl)
  ·split
   ·rename_i AQ;rw[AQ]at PW;exact .oc PW fun b hb=>MC.od.bk b hb fun⟨k,y,q,_⟩=>by simp[look]at q
   ·exact .dp PW
end
end Go.M
