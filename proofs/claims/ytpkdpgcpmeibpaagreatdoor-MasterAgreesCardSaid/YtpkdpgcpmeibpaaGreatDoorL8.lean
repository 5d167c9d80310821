/-
  Part 8 of the library that the proof leans on.
-/
import Derived.Test.YtpkdpgcpmeibpaaGreatDoorL7
namespace Go.M
open Go
section
variable {T E:Env} {X:Cx} {ρ:Gh} {F:Nat→Prop} {o:Ob} {c:Nat} {af:AF} {f:Fr} {h:ab} {p:Oper} {K:OK}
theorem fv.dE (_:Mem X ρ F o c h) {v:TV} {x:Value} {h':ab} {ρ':Gh} {F':Nat→Prop} {o':Ob} {c':Nat} {ns:List Nat} (hp:aZ E af p=none) (hq:b7 E af p=none) (ha:bw E af p=none)
 (he:dx E X.base af p h=some (.val x,h')) (hN:Nx X ρ F o c h ρ' F' o' c' h') (hv:VR c' ρ' F' h' v x) (hr:Raw ρ o h ρ' o' h' ns) (hK:K v o' c' (.dE ns)):fv E X ρ F o c af h p K:=by
 refine⟨0,⟨x,h',.dE h h'⟩,v,o',c',ρ',F',.dE ns,fun n _=>?_,hK,hN,hv,.dE hr⟩;unfold eF;rw[hp,hq,ha,he]
theorem uf (H:Mem X ρ F o c h) {F1:Nat→Prop} {o1:Ob} (Sh:ql X ρ c h F o F1 o1) {S:Nat→Ft} (K1:MO X ρ F1 o1 c h S) {m:Nat} {y y':TO} {h':ab} (hl:look o1 m=some y) {x:Nat} (hhm:x∈dS (S m))
 (same:∀z,z<h.size→hd h z≠x→h'.get z=h.get z):Raw ρ o h ρ (fq o1 m y') h' [m]:=by
 intro n yn hn bH;have oX:n≠m:=by simpa using bH
 obtain⟨y1,k1,k2⟩:=Sh.wk n yn hn;refine⟨⟨y1,by rw[eJ,if_neg oX];exact k1⟩,rfl,fun b hb=>?_⟩;obtain⟨q1,q2⟩:=Sh.mem.DG K1 k1 hb;have Zv:hd h b≠x:=fun e=>by
  rw[e]at q2;exact oX (K1.fO n m y1 y _ k1 hl q2 hhm)
 exact⟨same b q1 Zv,fun cs hr=>j9 H.wf same Zv hr⟩
theorem FO (_:Mem X ρ F o c h) {F1:Nat→Prop} {o1:Ob} (S:ql X ρ c h F o F1 o1) {ρ':Gh} {F2:Nat→Prop} {o2:Ob} {c2:Nat} {h':ab} (M:Mem X ρ' F2 o2 c2 h') (hk:∀t x,VR c ρ F1 h t x→VR c2 ρ' F2 h' t x) (hF:∀b,F1 b→F2 b)
 (gB:h.size≤h'.size) (dn:∀b cs,F b→h.rd b=some cs→h'.rd b=some cs):Nx X ρ F o c h ρ' F2 o2 c2 h':=
 ⟨M,fun t x hx=>hk t x (S.bA t x hx),gB,fun b hb=>hF b (S.FF b hb),dn⟩
theorem Kd {t:TV} {x:Value} (ho:AE t=true) (hv:VR c ρ F h t x):ie x=true:=by
 cases hv with
 |s hp=>cases x<;>simp[aB]at hp<;>rfl
 |tk hn lx=>cases x<;>simp[Ln]at lx;rfl
 |wp hn lx=>cases x<;>simp[Yc]at lx;rfl
 |j=>simp[AE]at ho
 |agg=>simp[AE]at ho
 |dk=>simp[AE]at ho
 |sv=>simp[AE]at ho
 |pv=>simp[AE]at ho
 |_=>rfl
theorem xR:∀{l:List TV} {m:List Value},l.all AE=true→dP c ρ F h l m→m.all ie=true
 |[],m,_,H=>by rw[H.bG];rfl
 |t::l,m,ho,H=>by
  simp only[List.all_cons,Bool.and_eq_true]at ho;obtain⟨v,m',rfl,h1,h2⟩:=H.aO;simp only[List.all_cons,Bool.and_eq_true];exact⟨Kd ho.1 h1,xR ho.2 h2⟩
def OI (E:Env) (base:Nat) (t:TypeId) (a v:Value) (h:ab):Option (xj×ab):=(E.size t).bind fun n=>(jC a).bind fun p=>
      bO (Nat.beq v.cells.size n&&v.cells.toList.all ie)<|(h.rd p.1).bind fun cs=>(dJ cs p.2 v.cells.toList).bind fun cs'=>(h.wr base p.1 cs').bind fun h'=>some (.val undef,h')
theorem FP {α:Type} {v1 v2 v3 Yf xs:List α} {p:Nat} (h:dJ v2 p xs=some Yf):dJ (v1++(v2++v3)) (v1.length+p) xs=some (v1++(Yf++v3)):=by
 obtain⟨s1,s2,s3⟩:=dG h;obtain⟨r,hr⟩:=mU (n:=v1.length+p) (l:=v1++(v2++v3)) (xs:=xs) (by simp;omega);rw[hr]
 congr 1
 rw[lh hr,lh h];rw[List.take_length_add_append,List.drop_length_add_append,List.take_append_of_le_length om,List.drop_append_of_le_length om,List.drop_append_of_le_length (by rw[List.length_drop];omega)];simp[List.append_assoc]
theorem da.dJ {base:Nat} {S:Ft} {l xs r:List TV} {m ys:List Value} {p:Nat} (H:da c ρ F h base S l m) (hs:M.dJ l p xs=some r) (hx:dP c ρ F h xs ys):∃m' S',M.dJ m p ys=some m'∧da c ρ F h base S' r m'∧S'.Sublist S:=by
 obtain⟨s1,s2,s3⟩:=dG hs;have hlen:=H.len;obtain⟨m',hm⟩:=mU (n:=p) (l:=m) (xs:=ys) (by rw[←hx.1,←hlen];exact s1);obtain⟨S1,S2,S3,rfl,a1,a2,a3⟩:=H.part p xs.length;refine⟨m',S1++S3,hm,?_,(List.sublist_append_right S2 S3).append_left S1⟩;rw[lh hs,lh hm,←hx.1];exact a1.join ((da.lN (base:=base) hx).join a3)
theorem y8 {α:Type} {l:List α} {i:Nat} {e:α} (he:l[i]? =some e):l.set i e=l:=by
 refine List.ext_getElem? fun k=>?_;rw[List.getElem?_set];by_cases ek:i=k
 ·subst ek;rw[if_pos rfl,if_pos (List.getElem?_eq_some_iff.1 he).1,he]
 ·rw[if_neg ek]
theorem LK (L:cD T E) (H:Mem X ρ F o c h) {t:TypeId} {a v:TV} {av vv:Value} (hw:Ie T t a v o c K) (ha:VR c ρ F h a av) (hv:VR c ρ F h v vv) (hp:aZ E af p=none) (hq:b7 E af p=none) (eP:bw E af p=none)
 (he:dx E X.base af p h=OI E X.base t av vv h):fv E X ρ F o c af h p K:=by
 unfold Ie at hw;split at hw
 ·exact hw.elim
 ·rename_i n hn;split at hw
  ·exact hw.elim
  ·rename_i hc;simp only[Bool.and_eq_true,beq_iff]at hc;obtain⟨⟨Ke,hlen⟩,cC⟩:=hc;have uc:=jL hv Ke;have lK:=xR cC uc;have gB:vv.cells.size=n:=by have:=uc.1;simp only[Array.length_toList]at this;omega
   have go:∀b q cs cs' h',av= .pointer (some ⟨b,q,none⟩)→h.rd b=some cs→dJ cs q vv.cells.toList=some cs'→h.wr X.base b cs'=some h'→dx E X.base af p h=some (.val undef,h'):=by
    rintro b q cs cs' h' rfl h1 h2 h3;rw[he];unfold OI;simp only[L.size _ _ hn,Option.bind_some,jC,gB,lK,h1,h2,h3,bO];simp
   split at hw
   ·rename_i m q;split at hw
    ·rename_i cs hl;split at hw
     ·rename_i uY jG;obtain⟨S,K0⟩:=H.ex;have hO:=K0.ct m _ hl;generalize hS:S m=Sm at hO;cases hO with
      |cells hb hg AK hc=>
       rename_i Sq b bd csv;cases ha with
       |ptr bV=>
        rw[hb]at bV;cases bV;have gA:=eW (cG hg hg) AK (aT hg);obtain⟨Zw,S',h1,h2,h3⟩:=hc.dJ jG uc;have UB:(b,true)∈S m:=by rw[hS];exact List.mem_cons_self
        have rW:=K0.fP m _ b hl (eB UB);have oY:=K0.EG m _ hl;rw[hS]at oY;obtain⟨n1,n2⟩:=List.nodup_cons.1 oY;have nv:((b,true)::S').Sublist ((b,true)::Sq):=h3.cons_cons _;have W:=Dv (cs':=Zw) H.wf hg (cG hg hg);obtain⟨t',th',mF⟩:=W.self;obtain⟨M,hk⟩:=H.set K0 (y':=.cells uY) (S0:=(b,true)::S') hl UB (fun p hp=>by rw[hS];exact nv.subset hp) (show(dS _).Nodup from List.Sublist.nodup (nv.map Prod.fst) oY) W.size W.wf W.same W.dS fun hm dn=>by
         refine .cells hb (bd:=b) (cs':=Zw) ?_ (Nat.le_refl _) (h2.bA (T:=fun x=>x=b) H.wf W.same (fun _ h=>h) dn hm fun x hx e=>?_)
         ·obtain⟨c0,cL⟩:=b9 W.dU;simp only at cL;rw[mF]at cL;rw[mF,Option.some.injEq,fH.cells.injEq]at*
          obtain⟨_,_,e3,e4⟩:=cL;exact⟨rfl,rfl,e3,e4⟩
         ·subst e;exact n1 ((h3.map Prod.fst).subset hx)
        refine fv.dE H hp hq eP (go _ _ _ _ _ rfl gA h1 (J4 hg (cG hg hg) rW.1 rW.1)) (FO H (.refl H) M hk (fun _ h=>h) (by rw[W.size];exact Nat.le_refl _) fun b' cs' bV ni=>j9 H.wf W.same (K0.apart m _ _ b' hl UB bV) ni) (.j _)
         (uf H (.refl H) K0 hl (eB UB) W.same) hw
     ·exact hw.elim
    ·exact hw.elim
   ·rename_i m i q
    -- a row of which each cell may name an object
    have row:∀{y:TO} {b f t0 gX bd z:Nat} {es:List (List TV)} {e e1:List TV} {Sq:Ft} {cs:List Value} {S:Nat→Ft},MO X ρ F o c h S→look o m=some y→S m=(f,true)::Sq→ρ m=some (.arr b z es.length)→h.get b=some (.cells cs f t0 gX)→h.dU b=some (f,b,bd)→bd≤b→X.base≤f→0<z→cs.length=es.length*z→
     (∀e∈es,e.length=z)→(∀e∈es,∀t∈e,nP t=true)→i<es.length→e.length=z→av= .pointer (some ⟨b,i*z+q,none⟩)→da c ρ F h X.base Sq (es.set i e).flatten cs→dJ e q (aI v)=some e1→K .j (fq o m (.bB z es [(i,e1)])) c (.dE [m])→fv E X ρ F o c af h p K:=by
     intro y b f t0 gX bd z es e e1 Sq cs S K0 hl hS hb hg hf AK eG hz hlen pK b6 hi Nl Yg hc jG hw;obtain⟨S1,S2,S3,v1,v2,v3,rfl,rfl,a1,a2,a3⟩:=lP pK hi hc;obtain⟨Yf,Sf,h1,h2,h3⟩:=a2.dJ jG uc;have e1l:v1.length=i*z:=by
      have h1:=a1.len;obtain⟨e0,he0⟩:∃e0,es[i]? =some e0:=⟨_,List.getElem?_eq_getElem hi⟩;have:=(fy pK he0).2;rw[Nat.add_mul]at this;rw[←h1,List.length_take];omega
     have Zx:dJ (v1++(v2++v3)) (i*z+q) vv.cells.toList=some (v1++(Yf++v3)):=by rw[←e1l];exact FP h1
     have gA:=eW hf AK (aT hg);have AH:(f,true)∈S m:=by rw[hS];exact List.mem_cons_self
     have rW:=K0.fP m _ f hl (eB AH);have oY:=K0.EG m _ hl;rw[hS]at oY;obtain⟨n1,n2⟩:=List.nodup_cons.1 oY;have UC:(S1++(Sf++S3)).Sublist (S1++(S2++S3)):=(h3.append_right S3).append_left S1;have nv:((f,true)::(S1++(Sf++S3))).Sublist ((f,true)::(S1++(S2++S3))):=UC.cons_cons _;have OJ:X.base≤b:=by have:=H.wf.le _ _ _ _ _ hg;omega
     have W:=Dv (cs':=v1++(Yf++v3)) H.wf hg hf;obtain⟨t',th',mF⟩:=W.self;have e1z:e1.length=z:=by rw[(dG jG).2.1];exact Nl
     have QZ:Yf.length=v2.length:=(dG h1).2.1;obtain⟨M,hk⟩:=H.set K0 (y':=.bB z es [(i,e1)]) (S0:=(f,true)::(S1++(Sf++S3))) hl AH (fun p hp=>by rw[hS];exact nv.subset hp) (show(dS _).Nodup from List.Sublist.nodup (nv.map Prod.fst) oY) W.size W.wf W.same W.dS fun hm dn=>by
      refine .bB hb mF W.dU (Nat.le_refl _) eG hz (by rw[←hlen];simp[QZ]) pK b6 (fun p hp=>?_) ((qW pK hi a1 h2 a3).bA (T:=fun x=>x=f) H.wf W.same (fun _ h=>h) dn hm fun x hx e=>?_)
      ·simp only[List.mem_singleton]at hp;subst hp;exact⟨hi,e1z⟩
      ·subst e;exact n1 ((UC.map Prod.fst).subset hx)
     refine fv.dE H hp hq eP (go _ _ _ _ _ Yg gA Zx (J4 hg hf OJ eG)) (FO H (.refl H) M hk (fun _ h=>h) (by rw[W.size];exact Nat.le_refl _) fun b' cs' bV ni=>j9 H.wf W.same (K0.apart m _ _ b' hl AH bV) ni) (.j _)
      (uf H (.refl H) K0 hl (eB AH) W.same) hw
    split at hw
    ·rename_i l mP iz;split at hw
     ·rename_i z es hl;obtain⟨e,pK,hw⟩:=hw;split at hw
      ·rename_i e1 jG;obtain⟨F1,Sh,sv⟩:=rj (aI v) H;have H1:=Sh.mem;have vd:=sv l _ iz uc;obtain⟨f1,f2⟩:=xQ iz;obtain⟨b,z1,l1,hb,rfl⟩:=vx H1 hl rfl (Sh.bA _ _ ha);obtain⟨S,K1⟩:=H1.ex;have hO:=K1.ct m _ hl;generalize hS:S m=Sm at hO;cases hO with
       |nil bV hz=>rw[hb]at bV;cases bV
       |arr bV hg hf AK eG hz cY xq Dy lT hF=>
        rename_i f t0 gX bd cs;rw[hb]at bV;cases bV;have hE:ER c ρ F1 h z es cs:=⟨cY,xq,Dy,lT⟩;have gA:=eW hf AK (aT hg);have hi:i<es.length:=(List.getElem?_eq_some_iff.1 pK).1;have Nl:=xq e (List.mem_of_getElem? pK);obtain⟨s1,s2,s3⟩:=dG jG;have QX:vv.cells.toList.length=l.length:=vd.1.symm;have hle:(i+1)*z≤es.length*z:=Nat.mul_le_mul_right z hi;rw[Nat.add_mul]at hle;obtain⟨uY,DH⟩:=mU (n:=i*z+q) (l:=cs) (xs:=vv.cells.toList) (by rw[cY,QX];omega);obtain⟨t1,t2,t3⟩:=dG DH;have AH:(f,true)∈S m:=by rw[hS];exact List.mem_cons_self
        have rW:=K1.fP m _ f hl (eB AH);have OJ:X.base≤b:=by
         have:=H1.wf.le _ _ _ _ _ hg;omega
        have W:=Dv (cs':=uY) H.wf hg hf;obtain⟨t',th',mF⟩:=W.self;have Zu:ER c ρ F1 h z (es.set i e1) uY:=by
         refine hE.setAt (i:=i) (l:=e1) (fun j=>?_) (by simp) hi (by rw[s2,Nl]) (fun t ht=>?_) t2 (fun j t v q1 q2=>?_) (fun k hk=>?_)
         ·rw[List.getElem?_set];by_cases ej:i=j
          ·subst ej;rw[if_pos rfl,if_pos rfl,if_pos hi]
          ·rw[if_neg ej,if_neg (fun e=>ej e.symm)]
         ·obtain⟨j,hj⟩:=List.getElem?_of_mem ht;rw[s3]at hj;split at hj
          ·exact f1 t (List.mem_of_getElem? hj)
          ·exact Dy e (List.mem_of_getElem? pK) t (List.mem_of_getElem? hj)
         ·rw[s3]at q1;rw[t3]at q2;split at q1
          ·rename_i hj;rw[if_pos ⟨om,om⟩]at q2;exact vd.2 (j - q) t v q1 (by rw[←q2];congr 1;omega)
          ·rename_i hj;rw[if_neg om]at q2;exact lT i j e t v pK q1 q2
         ·rw[t3,if_neg];rw[Nat.add_mul]at hk;omega
        obtain⟨M,hk⟩:=H1.set K1 (y':=.arr z true (es.set i e1)) (S0:=[(f,true)]) hl AH (fun p hp=>by simp only[List.mem_singleton]at hp;subst hp;exact AH) (by simp[dS]) W.size W.wf W.same W.dS fun hm _=>
         OR.On (by simp[hb]) mF W.dU (Nat.le_refl _) eG hz (Zu.mono hm) (fun h=>by cases h)
        refine fv.dE H hp hq eP (go _ _ _ _ _ rfl gA DH (J4 hg hf OJ eG)) (FO H Sh M hk (fun _ h=>h) (by rw[W.size];exact Nat.le_refl _) fun b' cs' bV ni=>j9 H.wf W.same (K1.apart m _ _ b' hl AH (Sh.FF _ bV)) ni) (.j _)
         (uf H Sh K1 hl (eB AH) W.same) hw
      ·exact hw.elim
     ·exact hw.elim
    ·rename_i z es hl iz;obtain⟨e,pK,hw⟩:=hw;split at hw
     ·rename_i e1 jG;obtain⟨b,z1,l1,hb,Yg⟩:=vx H hl rfl ha;obtain⟨S,K0⟩:=H.ex;have hO:=K0.ct m _ hl;generalize hS:S m=Sm at hO;cases hO with
      |nil bV hz=>rw[hb]at bV;cases bV
      |arr bV hg hf AK eG hz cY xq Dy lT hF=>
       rw[hb]at bV;cases bV;have hi:i<es.length:=(List.getElem?_eq_some_iff.1 pK).1;refine row K0 hl hS hb hg hf AK eG hz cY xq (fun e he t ht=>?_) hi (xq e (List.mem_of_getElem? pK)) Yg (by rw[y8 pK];exact da.lN (iL cY xq lT)) jG hw;have:=Dy e he t ht;unfold nP;split<;>first|rfl |exact this
     ·exact hw.elim
    ·rename_i z es op hl;obtain⟨b,z1,l1,hb,Yg⟩:=vx H hl rfl ha;obtain⟨S,K0⟩:=H.ex;have hO:=K0.ct m _ hl;generalize hS:S m=Sm at hO;cases hO with
     |ia bV hz=>rw[hb]at bV;cases bV
     |bB bV hg hf AK eG hz cY xq b6 iW lT=>
      rw[hb]at bV;cases bV;unfold JW at hw;split at hw
      ·obtain⟨e,pK,hw⟩:=hw;split at hw
       ·rename_i e1 jG;have hi:i<es.length:=(List.getElem?_eq_some_iff.1 pK).1;exact row K0 hl hS hb hg hf AK eG hz cY xq b6 hi (xq e (List.mem_of_getElem? pK)) Yg (by rw[y8 pK];exact lT) jG hw
       ·exact hw.elim
      ·rename_i j ej;obtain⟨o1,o2⟩:=iW (j,ej) (by simp);by_cases Ye:i=j
       ·subst Ye;have hw:=hw.1 rfl;simp only at hw;split at hw
        ·rename_i e1 jG;exact row K0 hl hS hb hg hf AK eG hz cY xq b6 o1 o2 Yg lT jG hw
        ·exact hw.elim
       ·obtain⟨_,_,hw⟩:=hw.2 Ye;exact hw.elim
      ·obtain⟨_,_,hw⟩:=hw;exact hw.elim
    ·exact hw.elim
   ·exact hw.elim
def y9 (E:Env) (base:Nat) (t:TypeId) (m k v:Value) (h:ab):Option (xj×ab):=(oE E base h t m k v).bind fun h'=>some (.val undef,h')
theorem nX (H:Mem X ρ F o c h) {F1:Nat→Prop} {o1:Ob} (Sh:ql X ρ c h F o F1 o1) {S:Nat→Ft} (K1:MO X ρ F1 o1 c h S) {n:Nat} {y y':TO} {b clock clock':Nat} {ev jz:List MapEntry} {Sq S':Ft} (hl:look o1 n=some y) (hS:S n=(b,true)::Sq) (hg:h.get b=some (.map ev clock))
 (nv:∀p∈S',p∈Sq) (AG:(dS S').Nodup) {x:Value} {v:TV} (hp:aZ E af p=none) (hq:b7 E af p=none) (eP:bw E af p=none) (he:dx E X.base af p h=some (.val x,h.put b (.map jz clock'))) (hv:∀c ρ F h,VR c ρ F h v x)
 (xN:∀h',(∀t v,VR c ρ F1 h t v→VR c ρ F1 h' t v)→(∀b',b'<h.size→¬(hd h b'=b)→h'.get b'=h.get b')→(∀b cs,F1 b→h.rd b=some cs→h'.rd b=some cs)→h'.get b=some (.map jz clock')→(∀x∈dS S',x≠b)→OR c ρ F1 h' X.base n ((b,true)::S') y')
 (hK:K v (fq o1 n y') c (.dE [n])):fv E X ρ F o c af h p K:=by
 have H1:=Sh.mem;have UB:(b,true)∈S n:=by rw[hS];exact List.mem_cons_self
 have oY:=K1.EG n _ hl;rw[hS]at oY;obtain⟨n1,n2⟩:=List.nodup_cons.1 oY;have pN:∀x∈dS S',x≠b:=fun x hx e=>by
  subst e;obtain⟨q,hq,e⟩:=List.mem_map.1 hx;exact n1 (List.mem_map.2 ⟨q,nv q hq,e⟩)
 have hdb:hd h b=b:=by simp[hd,hg]
 have fo:∀x,(h.put b (.map jz clock')).get x=if x=b then some (.map jz clock')else h.get x:=fun x=>ab.e6 _ _ _ _
 have same:∀x,x<h.size→hd h x≠b→(h.put b (.map jz clock')).get x=h.get x:=fun x _ hx=>by
  rw[fo,if_neg];intro e;subst e;exact hx hdb
 have VO:∀x,hd (h.put b (.map jz clock')) x=hd h x:=fun x=>by
  by_cases e:x=b
  ·subst e;rw[hdb];unfold hd;rw[fo,if_pos rfl]
  ·unfold hd;rw[fo,if_neg e]
 have lC:Wf (h.put b (.map jz clock')):=by
  have AT:=H.wf.lt hg;refine⟨fun x hx=>?_,fun x cs f t th hx=>?_⟩
  ·rw[ab.size_put]at hx;rw[fo,if_neg om];exact H.wf.high x hx
  ·rw[fo]at hx;split at hx
   ·cases hx
   ·exact H.wf.le _ _ _ _ _ hx
 obtain⟨M,hk⟩:=H1.set K1 (y':=y') (S0:=(b,true)::S') hl UB (fun p hp=>by
  rw[hS];rcases List.mem_cons.1 hp with rfl |hp
  ·exact List.mem_cons_self
  ·exact List.mem_cons_of_mem _ (nv p hp)) (List.nodup_cons.2 ⟨fun hx=>pN b hx rfl,AG⟩) (ab.size_put _ _ _) lC same VO fun hm dn=>
  xN _ hm same dn (by rw[fo,if_pos rfl]) pN
 exact fv.dE H hp hq eP he (FO H Sh M hk (fun _ h=>h) (by rw[ab.size_put];exact Nat.le_refl _) fun b' cs' bV ni=>j9 H.wf same (K1.apart n _ _ b' hl UB (Sh.FF _ bV)) ni) (hv _ _ _ _)
  (uf H Sh K1 hl (eB UB) same) hK
theorem map_set (H:Mem X ρ F o c h) {F1:Nat→Prop} {o1:Ob} (Sh:ql X ρ c h F o F1 o1) {n kn:Nat} {es Zt:List (Value×TV)} {b clock clock':Nat} {ev jz:List MapEntry} (hl:look o1 n=some (.map kn es)) (hb:ρ n=some (.dw b)) (hg:h.get b=some (.map ev clock))
 (hE:vB c ρ F1 h kn Zt jz) (bR:tt jz clock') {x:Value} {v:TV} (hp:aZ E af p=none) (hq:b7 E af p=none) (eP:bw E af p=none) (he:dx E X.base af p h=some (.val x,h.put b (.map jz clock'))) (hv:∀c ρ F h,VR c ρ F h v x)
 (hK:K v (fq o1 n (.map kn Zt)) c (.dE [n])):fv E X ρ F o c af h p K:=by
 obtain⟨S,K1⟩:=Sh.mem.ex;have hO:=K1.ct n _ hl;generalize hS:S n=Sm at hO;cases hO with
 |map bV mF AI lT NM=>
  rw[hb]at bV;cases bV;exact nX H Sh K1 (S':=[]) hl hS hg (by simp) (by simp[dS]) hp hq eP he hv (fun h' hm same dn OL _=>.map hb OL hE.1 (fun i e e' q1 q2=>let⟨r1,r2,r3,r4⟩:=hE.2 i e e' q1 q2;⟨r1,r2,r3,hm _ _ r4⟩) bR) hK
end
section
variable {T E:Env} {X:Cx} {ρ:Gh} {F:Nat→Prop} {o:Ob} {c:Nat} {af:AF} {f:Fr} {h:ab} {p:Oper} {K:OK}
theorem za {kd:TypeDesc} {k:Value} {n:Nat} (hk:kindOk kd k n=true):∀{es:List (Value×TV)} {bU:List MapEntry} (i:Nat),vB c ρ F h n es bU→
 (Instr.findNow kd k bU i=some none∧(∀v,dL es k v=es++[(k,v)])∧qa es k=es)∨
 ∃j x,j<es.length∧Instr.findNow kd k bU i=some (some (i+j,x))∧(∀v,dL es k v=es.set j (k,v))∧qa es k=es.eraseIdx j
 |[],bU,i,H=>by rw[H.bG];exact .inl ⟨rfl,fun _=>rfl,rfl⟩
 |e::es,bU,i,H=>by
  obtain⟨e',m,rfl,h1,h2,h3,h4,h5⟩:=H.aO;unfold Instr.findNow;rw[h1,ky hk h2.2];cases hq:mR k e.1 with
  |true=>exact .inr ⟨0,e'.val,by simp,rfl,fun v=>by simp[dL,hq],by simp[qa,hq]⟩
  |false=>
   simp only
   rcases za hk (i+1) h5 with⟨q1,q2,q3⟩|⟨j,x,q0,q1,q2,q3⟩
   ·exact .inl ⟨q1,fun v=>by simp[dL,hq,q2],by simp[qa,hq,q3]⟩
   ·exact .inr ⟨j+1,x,by simp;omega,by rw[q1];congr 3;omega,fun v=>by simp[dL,hq,q2],by simp[qa,hq,q3]⟩
theorem vB.mono {kn c':Nat} {ρ':Gh} {F':Nat→Prop} {h':ab} {es:List (Value×TV)} {ev:List MapEntry} (H:vB c ρ F h kn es ev) (hm:∀t v,VR c ρ F h t v→VR c' ρ' F' h' t v):vB c' ρ' F' h' kn es ev:=
 ⟨H.1,fun i e e' q1 q2=>let⟨r1,r2,r3,r4⟩:=H.2 i e e' q1 q2;⟨r1,r2,r3,hm _ _ r4⟩⟩
theorem vB.xS {kn:Nat} {es:List (Value×TV)} {ev:List MapEntry} (H:vB c ρ F h kn es ev) {k:Value} {v:TV} {x:Value} (hk:0<kn∧bk k=kn) (hf:Fg v=true) (hv:VR c ρ F h v x) (b:Nat):vB c ρ F h kn (es++[(k,v)]) (ev++[{key:=k,val:=x,born:=b}]):=by
 refine⟨by simp[H.1],fun i e e' q1 q2=>?_⟩;by_cases hi:i<es.length
 ·rw[List.getElem?_append_left hi]at q1;rw[List.getElem?_append_left (by rw[←H.1];exact hi)]at q2;exact H.2 i e e' q1 q2
 ·rw[List.getElem?_append_right om]at q1;rw[List.getElem?_append_right (by rw[←H.1];omega),←H.1]at q2;have:i - es.length=0:=by
   rcases Nat.eq_zero_or_pos (i - es.length)with h0|h0
   ·exact h0
   ·rw[List.getElem?_eq_none (by simp;omega)]at q1;cases q1
  rw[this]at q1 q2;simp at q1 q2;subst q1;subst q2;exact⟨rfl,hk,hf,hv⟩
theorem vB.set {kn:Nat} {es:List (Value×TV)} {ev:List MapEntry} (H:vB c ρ F h kn es ev) {k:Value} {v:TV} {x:Value} (hk:0<kn∧bk k=kn) (hf:Fg v=true) (hv:VR c ρ F h v x) (j:Nat):vB c ρ F h kn (es.set j (k,v)) (ev.modify j fun e=>{e with key:=k,val:=x}):=by
 refine⟨by simp[H.1],fun i e e' q1 q2=>?_⟩;rw[List.getElem?_set]at q1;rw[List.getElem?_modify]at q2;by_cases e0:j=i
 ·subst e0;rw[if_pos rfl]at q1;split at q1
  ·cases q1;cases hq:ev[j]? with
   |none=>rw[hq]at q2;simp at q2
   |some a=>rw[hq]at q2;simp at q2;subst q2;exact⟨rfl,hk,hf,hv⟩
  ·cases q1
 ·rw[if_neg e0]at q1;cases hq:ev[i]? with
  |none=>rw[hq]at q2;simp at q2
  |some a=>
   rw[hq]at q2;simp[e0]at q2;subst q2;exact H.2 i e _ q1 hq
theorem vB.erase {kn:Nat} {es:List (Value×TV)} {ev:List MapEntry} (H:vB c ρ F h kn es ev) (j:Nat):vB c ρ F h kn (es.eraseIdx j) (ev.eraseIdx j):=by
 refine⟨by rw[List.length_eraseIdx,List.length_eraseIdx,H.1],fun i e e' q1 q2=>?_⟩;rw[List.getElem?_eraseIdx]at q1 q2;split at q1
 ·rename_i aN;rw[if_pos aN]at q2;exact H.2 _ _ _ q1 q2
 ·rename_i aN;rw[if_neg aN]at q2;exact H.2 _ _ _ q1 q2
theorem tt.xS {ev:List MapEntry} {clock:Nat} (H:tt ev clock) {k v:Value}:tt (ev++[{key:=k,val:=v,born:=clock}]) (clock+1):=by
 refine⟨fun x hx=>?_,?_⟩
 ·rcases List.mem_append.1 hx with hx|hx
  ·have:=H.1 x hx;omega
  ·simp at hx;subst hx;simp
 ·rw[List.map_append,List.nodup_append];refine⟨H.2,by simp,fun a ha b hb=>?_⟩;obtain⟨x,hx,rfl⟩:=List.mem_map.1 ha;simp at hb;subst hb;have:=H.1 x hx;omega
theorem tt.modify {ev:List MapEntry} {clock:Nat} (H:tt ev clock) (j:Nat) {f:MapEntry→MapEntry} (hf:∀e,(f e).born=e.born):tt (ev.modify j f) clock:=by
 have h1:(ev.modify j f).map (·.born)=ev.map (·.born):=by
  apply List.ext_getElem?;intro i;rw[List.getElem?_map,List.getElem?_map,List.getElem?_modify];cases ev[i]? with
  |none=>simp
  |some e=>by_cases h:j=i<;>simp[h,hf]
 refine⟨fun x hx=>?_,by rw[h1];exact H.2⟩;have:x.born∈(ev.modify j f).map (·.born):=List.mem_map.2 ⟨x,hx,rfl⟩;rw[h1]at this;obtain⟨y,hy,e⟩:=List.mem_map.1 this;rw[←e];exact H.1 y hy
theorem tt.erase {ev:List MapEntry} {clock:Nat} (H:tt ev clock) (j:Nat):tt (ev.eraseIdx j) clock:=
 ⟨fun x hx=>H.1 x (List.mem_of_mem_eraseIdx hx),((List.eraseIdx_sublist ev j).map _).nodup H.2⟩
theorem LL {v:TV} {x:Value} (hv:VR c ρ F h v x) (ho:okV v=true):dz v=gg x:=by
 cases hv with
 |j=>simp[okV,AE]at ho
 |dk=>simp[okV,AE]at ho
 |sv=>simp[okV,AE]at ho
 |pv=>simp[okV,AE]at ho
 |s hp=>cases x<;>first|rfl |simp[aB]at hp
 |tk _ h1=>cases x<;>first|rfl |simp[Ln]at h1
 |wp _ h1=>cases x<;>first|rfl |simp[Yc]at h1
 |_=>rfl
theorem zb {kd:TypeDesc} {k:Value} {n:Nat} {v w:TV} (hk:kindOk kd k n=true):∀{es:List (Value×TV)},dL (dL es k w) k v=dL es k v
 |[]=>by simp[dL,ue hk]
 |e::es=>by
  cases hq:mR k e.1 with
  |true=>simp[dL,hq,ue hk]
  |false=>simp[dL,hq,zb hk]
theorem jh.kl {base:Nat} {kd:TypeDesc} {k:Value} {n:Nat} (hk:kindOk kd k n=true) (mV:0<n∧bk k=n) {v:TV} {x:Value} (hv:da c ρ F h base [] (aI v) x.cells.toList) (ha:dz v=gg x) (b:Nat):∀{M:List (Value×TV)} {ev:List MapEntry} {S:Ft} (i:Nat),jh c ρ F h base n S M ev→
 (Instr.findNow kd k ev i=some none∧jh c ρ F h base n S (dL M k v) (ev++[{key:=k,val:=x,born:=b}]))∨
 ∃j y S',Instr.findNow kd k ev i=some (some (i+j,y))∧jh c ρ F h base n S' (dL M k v) (ev.modify j fun e=>{e with key:=k,val:=x})∧S'.Sublist S
 |[],ev,S,i,H=>by
  cases H;exact .inl ⟨rfl,jh.cons (e:=(k,v)) (S:=[]) (S':=[]) rfl mV ha hv .nil⟩
 |e::es,ev,S,i,H=>by
  cases H with
  |cons vC j5 yf pD hl=>
   rename_i Sa Sb e' m;unfold Instr.findNow;rw[vC,ky hk j5.2];cases hq:mR k e.1 with
   |true=>
    refine .inr ⟨0,e'.val,Sb,rfl,?_,List.sublist_append_right _ _⟩;simp only[dL,hq];exact jh.cons (e:=(k,v)) (S:=[]) rfl mV ha hv hl
   |false=>
    simp only[dL,hq];rcases jh.kl hk mV hv ha b (i+1) hl with⟨q1,q2⟩|⟨j,y,S',q1,q2,q3⟩
    ·exact .inl ⟨q1,.cons vC j5 yf pD q2⟩
    ·exact .inr ⟨j+1,y,Sa++S',by rw[q1];congr 3;omega,.cons vC j5 yf pD q2,q3.append_left _⟩
theorem jh.del {base:Nat} {kd:TypeDesc} {k:Value} {n:Nat} (hk:kindOk kd k n=true):∀{M:List (Value×TV)} {ev:List MapEntry} {S:Ft} (i:Nat),jh c ρ F h base n S M ev→
 (Instr.findNow kd k ev i=some none∧qa M k=M)∨
 ∃j y S',Instr.findNow kd k ev i=some (some (i+j,y))∧jh c ρ F h base n S' (qa M k) (ev.eraseIdx j)∧S'.Sublist S
 |[],ev,S,i,H=>by cases H;exact .inl ⟨rfl,rfl⟩
 |e::es,ev,S,i,H=>by
  cases H with
  |cons vC j5 yf pD hl=>
   rename_i Sa Sb e' m;unfold Instr.findNow;rw[vC,ky hk j5.2];cases hq:mR k e.1 with
   |true=>exact .inr ⟨0,e'.val,Sb,rfl,by simp only[qa,hq];exact hl,List.sublist_append_right _ _⟩
   |false=>
    simp only[qa,hq];rcases jh.del hk (i+1) hl with⟨q1,q2⟩|⟨j,y,S',q1,q2,q3⟩
    ·exact .inl ⟨q1,by rw[q2]⟩
    ·exact .inr ⟨j+1,y,Sa++S',by rw[q1];congr 3;omega,.cons vC j5 yf pD q2,q3.append_left _⟩
theorem FQ {k:Value} {e:Value×TV}:∀{es:List (Value×TV)},e∈qa es k→e∈es
 |[],h=>by simp[qa]at h
 |a::l,h=>by
  unfold qa at h;split at h
  ·exact List.mem_cons_of_mem _ h
  ·rcases List.mem_cons.1 h with rfl |h
   ·exact List.mem_cons_self
   ·exact List.mem_cons_of_mem _ (FQ h)
theorem Bb (L:cD T E) (H:Mem X ρ F o c h) {t:TypeId} {m k v:TV} {mv kv vv:Value} (hw:sG T t m k v o c K) (hm:VR c ρ F h m mv) (hk:VR c ρ F h k kv) (hv:VR c ρ F h v vv) (hp:aZ E af p=none) (hq:b7 E af p=none) (eP:bw E af p=none)
 (he:dx E X.base af p h=y9 E X.base t mv kv vv h):fv E X ρ F o c af h p K:=by
 unfold sG at hw;split at hw
 ·rename_i kt elem hd;split at hw
  ·rename_i kd Ba j5;have LM:=hk.dA.1;subst LM;split at hw
   ·rename_i n;have VW:∀{kn},kindOk kd kv kn=true→0<kn∧bk kv=kn:=fun {kn} lk=>by
     unfold kindOk at lk;simp only[Bool.and_eq_true,beq_iff,ba]at lk;exact⟨lk.1.1,lk.2⟩
    have run:∀{kn b clock:Nat} {ev jz:List MapEntry} {Zy:Nat},kindOk kd kv kn=true→mv= .map (some b)→X.base≤b→h.get b=some (.map ev clock)→
     (∃i,Instr.findNow kd kv ev 0=some i∧(match i with|some (i,_)=>jz=(ev.modify i fun e=>{e with key:=kv,val:=vv})∧Zy=clock|none=>jz=ev++[{key:=kv,val:=vv,born:=clock}]∧Zy=clock+1))→
     dx E X.base af p h=some (.val undef,h.put b (.map jz Zy)):=by
     rintro kn b clock ev jz Zy lk rfl bE hg ⟨i,hi,h2⟩;obtain⟨iB,mJ⟩:=kb lk;rw[he];unfold y9 oE;rw[L.desc _ _ hd];simp only[Option.bind_some,L.desc _ _ j5];rw[aW.2 bE,iB,mJ,hg];simp only[Bool.and_self,bO,hi,Option.bind_some];cases i with
     |none=>obtain⟨rfl,rfl⟩:=h2;rfl
     |some i=>obtain⟨rfl,rfl⟩:=h2;rfl
    -- entries that name objects
    have named:∀{S:Nat→Ft} {y:TO} {kn b clock:Nat} {ev:List MapEntry} {es M:List (Value×TV)} {Sq:Ft},MO X ρ F o c h S→look o n=some y→S n=(b,true)::Sq→ρ n=some (.dw b)→h.get b=some (.map ev clock)→tt ev clock→kindOk kd kv kn=true→okV v=true→mv= .map (some b)→
     (∀e∈es,∀t∈aI e.2,nP t=true)→jh c ρ F h X.base kn Sq M ev→dL M kv v=dL es kv v→K .j (fq o n (.fW kn es [(kv,v)])) c (.dE [n])→fv E X ρ F o c af h p K:=by
     intro S y kn b clock ev es M Sq K0 hl hS hb hg bR lk Ke hmv b6 hE hMe hw;have oY:=K0.EG n _ hl;rw[hS]at oY;obtain⟨n1,n2⟩:=List.nodup_cons.1 oY;have bE:X.base≤b:=(K0.fP n _ b hl (by rw[hS];exact List.mem_cons_self)).1;rcases hE.kl lk (VW lk) (da.lN (jL hv Ke)) (LL hv Ke) clock 0 with⟨q1,q2⟩|⟨j,x,S',q1,q2,q3⟩
     ·rw[hMe]at q2;exact nX H (.refl H) K0 hl hS hg (fun _ h=>h) n2 hp hq eP (run lk hmv bE hg ⟨_,q1,rfl,rfl⟩) (fun _ _ _ _=>.j _) (fun h' hm same dn OL pN=>.fW hb OL b6 (q2.bA (T:=fun x=>x=b) H.wf same (fun _ h=>h) dn hm pN) bR.xS) hw
     ·rw[hMe]at q2;exact nX H (.refl H) K0 hl hS hg (fun _ h=>q3.subset h) ((q3.map Prod.fst).nodup n2) hp hq eP (run (jz:=ev.modify j fun e=>{e with key:=kv,val:=vv}) (Zy:=clock) lk hmv bE hg ⟨_,q1,by simp,rfl⟩) (fun _ _ _ _=>.j _) (fun h' hm same dn OL pN=>.fW hb OL b6 (q2.bA (T:=fun x=>x=b) H.wf same (fun _ h=>h) dn hm pN) (bR.modify j fun _=>rfl)) hw
    split at hw
    ·rename_i kn es v' hl HQ;split at hw
     ·rename_i lk;have Ke:okV v=true:=by
       cases v<;>simp[Od,dn]at HQ<;>rfl
      obtain⟨F1,Sh,sv⟩:=Si H v Ke;obtain⟨pJ,iz⟩:=sv v' vv HQ hv;obtain⟨S,K0⟩:=H.ex;have hO:=K0.ct n _ hl;have Q9:=fun x hx=>K0.fP n _ x hl hx;generalize S n=Sm at hO Q9;cases hO with
      |map hb hg hlen hc bR=>
       rename_i b clock ev;have hE:vB c ρ F1 h kn es ev:=vB.mono ⟨hlen,hc⟩ Sh.bA;cases hm with
       |mp bV=>
        rw[hb]at bV;cases bV;obtain⟨y1,k1,k2⟩:=Sh.wk n _ hl;have:y1= .map kn es:=by cases y1<;>simp[jy]at k2;obtain⟨rfl,rfl⟩:=k2;rfl
        subst this;have bE:X.base≤b:=(Q9 b List.mem_cons_self).1;rcases za lk 0 hE with⟨q1,q2,q3⟩|⟨j,x,q0,q1,q2,q3⟩
        ·refine map_set H Sh k1 hb hg (hE.xS (VW lk) iz pJ clock) bR.xS hp hq eP (run lk rfl bE hg ⟨_,q1,rfl,rfl⟩) (fun _ _ _ _=>.j _) ?_;rw[q2]at hw;exact hw
        ·refine map_set H Sh k1 hb hg (hE.set (VW lk) iz pJ j) (bR.modify j fun _=>rfl) hp hq eP (run lk rfl bE hg ⟨_,q1,by simp,rfl⟩) (fun _ _ _ _=>.j _) ?_;rw[q2]at hw;exact hw
     ·exact hw.elim
    ·rename_i kn es hl HQ;split at hw
     ·rename_i Ra;simp only[Bool.and_eq_true]at Ra;obtain⟨lk,Ke⟩:=Ra;obtain⟨S,K0⟩:=H.ex;have hO:=K0.ct n _ hl;generalize hS:S n=Sm at hO;cases hO with
      |map hb hg hlen hc bR=>
       cases hm with
       |mp bV=>
        rw[hb]at bV;cases bV;have uc:=CR.VP (base:=X.base) hlen hc;exact named K0 hl hS hb hg bR lk Ke rfl (uc.Zd _ _ _ rfl) (jh.tX uc _ _ _ rfl) rfl hw
     ·exact hw.elim
    ·rename_i kn es hl;split at hw
     ·rename_i Ra;simp only[Bool.and_eq_true]at Ra;obtain⟨lk,Ke⟩:=Ra;obtain⟨S,K0⟩:=H.ex;have hO:=K0.ct n _ hl;generalize hS:S n=Sm at hO;cases hO with
      |fW hb hg b6 hc bR=>
       cases hm with
       |mp bV=>
        rw[hb]at bV;cases bV;exact named K0 hl hS hb hg bR lk Ke rfl b6 hc rfl hw
     ·exact hw.elim
    ·rename_i kn es k' w hl;split at hw
     ·rename_i Ra;simp only[Bool.and_eq_true]at Ra;obtain⟨lk,Ke⟩:=Ra;obtain⟨rfl,hw⟩:=hw;obtain⟨S,K0⟩:=H.ex;have hO:=K0.ct n _ hl;generalize hS:S n=Sm at hO;cases hO with
      |fW hb hg b6 hc bR=>
       cases hm with
       |mp bV=>
        rw[hb]at bV;cases bV;exact named K0 hl hS hb hg bR lk Ke rfl b6 hc (zb lk) hw
     ·exact hw.elim
    ·exact hw.elim
   ·exact hw.elim
  ·exact hw.elim
 ·exact hw.elim
theorem IG (L:cD T E) (H:Mem X ρ F o c h) {t:TypeId} {m k:TV} {mv kv:Value} (hw:Dh T t m k o c K) (hm:VR c ρ F h m mv) (hk:VR c ρ F h k kv) (hp:aZ E af p=none) (hq:b7 E af p=none) (eP:bw E af p=none)
 (he:dx E X.base af p h=(tz E X.base h t mv kv).bind fun r=>some (.val r.1,r.2)):fv E X ρ F o c af h p K:=by
 have Sl:∀(c:Nat) (ρ:Gh) (F:Nat→Prop) (h:ab),VR c ρ F h (.dk []) (.tuple #[]):=fun _ _ _ _=>.jg .nil;unfold Dh at hw;split at hw
 ·rename_i kt elem hd;split at hw
  ·rename_i kd Ba n j5;have LM:=hk.dA.1;subst LM;have run:∀{kn b clock:Nat} {ev jz:List MapEntry},kindOk kd kv kn=true→mv= .map (some b)→X.base≤b→h.get b=some (.map ev clock)→(∃i,Instr.findNow kd kv ev 0=some i∧jz=(match i with|some (i,_)=>ev.eraseIdx i|none=>ev))→dx E X.base af p h=some (.val (.tuple #[]),h.put b (.map jz clock)):=by
    rintro kn b clock ev jz lk rfl bE hg ⟨i,hi,rfl⟩;obtain⟨iB,mJ⟩:=kb lk;rw[he];unfold tz;rw[L.desc _ _ hd];simp only[Option.bind_some,L.desc _ _ j5];rw[aW.2 bE,iB,mJ,hg];simp only[Bool.and_self,bO,hi,Option.bind_some];cases i<;>rfl
   obtain⟨S,K0⟩:=H.ex;split at hw
   ·rename_i kn es hl;split at hw
    ·rename_i lk;have hO:=K0.ct n _ hl;have Q9:=fun x hx=>K0.fP n _ x hl hx;generalize S n=Sm at hO Q9;cases hO with
     |map hb hg hlen hc bR=>
      rename_i b clock ev;have hE:vB c ρ F h kn es ev:=⟨hlen,hc⟩;cases hm with
      |mp bV=>
       rw[hb]at bV;cases bV;have bE:X.base≤b:=(Q9 b List.mem_cons_self).1;rcases za lk 0 hE with⟨q1,q2,q3⟩|⟨j,x,q0,q1,q2,q3⟩
       ·refine map_set H (.refl H) hl hb hg hE bR hp hq eP (run (jz:=ev) lk rfl bE hg ⟨_,q1,rfl⟩) Sl ?_;rw[q3]at hw;exact hw
       ·refine map_set H (.refl H) hl hb hg (hE.erase j) (bR.erase j) hp hq eP (run (jz:=ev.eraseIdx j) lk rfl bE hg ⟨_,q1,by simp⟩) Sl ?_;rw[q3]at hw;exact hw
    ·exact hw.elim
   ·rename_i kn es hl;split at hw
    ·rename_i lk;have hO:=K0.ct n _ hl;have Q9:=fun x hx=>K0.fP n _ x hl hx;have oY:=K0.EG n _ hl;generalize hS:S n=Sm at hO Q9 oY;cases hO with
     |fW hb hg b6 hc bR=>
      rename_i Sq b clock ev;cases hm with
      |mp bV=>
       rw[hb]at bV;cases bV;have bE:X.base≤b:=(Q9 b List.mem_cons_self).1;obtain⟨n1,n2⟩:=List.nodup_cons.1 oY;have hE:jh c ρ F h X.base kn Sq es ev:=hc;rcases hE.del lk 0 with⟨q1,q2⟩|⟨j,x,S',q1,q2,q3⟩
       ·rw[q2]at hw;exact nX H (.refl H) K0 hl hS hg (fun _ h=>h) n2 hp hq eP (run (jz:=ev) lk rfl bE hg ⟨_,q1,rfl⟩) Sl (fun h' hm same dn OL pN=>.fW hb OL b6 (hE.bA (T:=fun x=>x=b) H.wf same (fun _ h=>h) dn hm pN) bR) hw
       ·exact nX H (.refl H) K0 hl hS hg (fun _ h=>q3.subset h) ((q3.map Prod.fst).nodup n2) hp hq eP (run (jz:=ev.eraseIdx j) lk rfl bE hg ⟨_,q1,by simp⟩) Sl (fun h' hm same dn OL pN=>.fW hb OL (fun e he=>b6 e (FQ he)) (q2.bA (T:=fun x=>x=b) H.wf same (fun _ h=>h) dn hm pN) (bR.erase j)) hw
    ·exact hw.elim
   ·exact hw.elim
  ·exact hw.elim
 ·exact hw.elim
theorem BP (H:Mem X ρ F o c h) {t:TypeId} {n kn:Nat} {y:TO} {mv:Value} (hl:look o n=some y) (hy:(∃es,y= .map kn es)∨∃es op,y= .fW kn es op) (hw:K (.dk []) (fq o n (.map kn [])) c (.dE [n])) (hm:VR c ρ F h (.mp n) mv) (hp:aZ E af p=none) (hq:b7 E af p=none) (eP:bw E af p=none)
 (hd:(E.desc t).isSome=true) (he:dx E X.base af p h=((E.desc t).bind fun _=>se E X.base h t mv).bind fun r=>some (.val r.1,r.2)):fv E X ρ F o c af h p K:=by
 obtain⟨S,K0⟩:=H.ex;have hO:=K0.ct n _ hl;have Q9:=fun x hx=>K0.fP n _ x hl hx;obtain⟨d,hd⟩:=Option.isSome_iff_exists.1 hd;have main:∀{b clock:Nat} {ev:List MapEntry} {Sq:Ft},S n=(b,true)::Sq→ρ n=some (.dw b)→h.get b=some (.map ev clock)→fv E X ρ F o c af h p K:=by
  intro b clock ev Sq hS hb hg;cases hm with
  |mp bV=>
   rw[hb]at bV;cases bV;have bE:X.base≤b:=(Q9 b (by rw[hS];exact List.mem_cons_self)).1;refine nX H (.refl H) K0 (S':=[]) (jz:=[]) (clock':=clock) hl hS hg (by simp) (by simp[dS]) hp hq eP ?_ (fun _ _ _ _=>.jg .nil) (fun h' hm same dn OL pN=>.map hb OL rfl (fun i e e' q=>by simp at q) ⟨by simp,by simp⟩) hw;rw[he,hd];unfold se;simp only[Option.bind_some];rw[aW.2 bE,hg];rfl
 generalize hS:S n=Sm at hO;rcases hy with⟨es,rfl⟩|⟨es,op,rfl⟩
 ·cases hO with
  |map hb hg hlen hc bR=>exact main hS hb hg
 ·cases hO with
  |fW hb hg b6 hc bR=>exact main hS hb hg
theorem ER.take {z:Nat} {es:List (List TV)} {cs:List Value} (A:ER c ρ F h z es cs) {i:Nat} (hi:i≤es.length):ER c ρ F h z (es.take i) (cs.take (i*z)):=by
 have hle:i*z≤es.length*z:=Nat.mul_le_mul_right z hi;refine⟨by rw[List.length_take,List.length_take,A.len,Nat.min_eq_left hi,Nat.min_eq_left hle],fun e he=>A.each e (List.mem_of_mem_take he),fun e he=>A.fz e (List.mem_of_mem_take he),fun a b e t v q1 q2 q3=>?_⟩;rw[List.getElem?_take]at q1 q3;split at q1
 ·split at q3
  ·exact A.cell a b e t v q1 q2 q3
  ·cases q3
 ·cases q1
theorem IH (L:cD T E) (H:Mem X ρ F o c h) {t elem:TypeId} {m i z:Nat} {zv xv:Value} {zs:List TV} {es:List (List TV)} (hd:T.desc t=some (.slice elem)) (hz:T.zero elem=some zv) (hl:look o m=some (.arr z true es)) (j6:nk zv=some zs)
 (hc:(zs.all fz&&Nat.beq zs.length z&&zs.all AE)=true) (hw:(es.length≤i→K (.dk []) o c (.dE [m]))∧(i<es.length→K (.dk []) (fq o m (.arr z true (es.take i++List.replicate (es.length - i) zs))) c (.dE [m])))
 (hx:VR c ρ F h (.sv m i) xv) (hp:aZ E af p=none) (hq:b7 E af p=none) (eP:bw E af p=none)
 (he:dx E X.base af p h=((E.desc t).bind fun _=>se E X.base h t xv).bind fun r=>some (.val r.1,r.2)):fv E X ρ F o c af h p K:=by
 simp only[Bool.and_eq_true,beq_iff]at hc;obtain⟨⟨iz,Lu⟩,fG⟩:=hc;obtain⟨kI,pq⟩:=L.zero _ _ hz;have sq:dP c ρ F h zs zv.cells.toList:=gG pq j6;have nop:∀a cap,xv= .slice a 0 cap→(a=none∨∃b q z1,a=some ⟨b,q,some z1⟩)→es.length≤i→fv E X ρ F o c af h p K:=by
  rintro a cap rfl ha hle;refine fv.dE H (v:=.dk []) (x:=.tuple #[]) hp hq eP ?_ (.refl H) (.jg .nil) (Raw.refl [m]) (hw.1 hle);rw[he,L.desc _ _ hd];rcases ha with rfl |⟨b,q,z1,rfl⟩<;>rfl
 obtain⟨S,K0⟩:=H.ex;have hO:=K0.ct m _ hl;generalize hS:S m=Sm at hO;cases hx with
 |sv hn h1 ha h0=>
  cases hO with
  |nil hb BL=>
   rcases h0 _ hb with rfl |⟨b,o',z',cap,rfl⟩
   ·exact nop _ _ rfl (.inl rfl) (Nat.zero_le _)
   ·exact nop _ _ rfl (.inr ⟨_,_,_,rfl⟩) (Nat.zero_le _)
  |arr hb hg hf AK eG BL cY xq Dy lT hF=>
   rename_i b f t0 gX bd cs;obtain⟨q,cap,rfl,hq'⟩:=ha _ _ _ hb;by_cases hi:i<es.length
   ·obtain rfl:=hq' hi;have hE:ER c ρ F h z es cs:=⟨cY,xq,Dy,lT⟩;have gA:=eW hf AK (aT hg);have hR:=ER.replicate sq Lu iz (es.length - i);have hRl:=hR.len;rw[List.length_replicate]at hRl;have hiz:i*z+(es.length - i)*z=es.length*z:=by rw[←Nat.add_mul];congr 1;omega
    obtain⟨uY,DH⟩:=mU (n:=i*z) (l:=cs) (xs:=a6 zv.cells.toList (es.length - i)) (by rw[cY,hRl];omega);have acO:uY=cs.take (i*z)++a6 zv.cells.toList (es.length - i):=by
     rw[lh DH,List.drop_drop,List.drop_eq_nil_of_le (by rw[cY,hRl];omega),List.append_nil]
    have Zu:ER c ρ F h z (es.take i++List.replicate (es.length - i) zs) uY:=by rw[acO];exact(hE.take (Nat.le_of_lt hi)).append hR
    have AH:(f,true)∈S m:=by rw[hS];exact List.mem_cons_self
    have rW:=K0.fP m _ f hl (eB AH);have OJ:X.base≤b:=by have:=H.wf.le _ _ _ _ _ hg;omega
    have W:=Dv (cs':=uY) H.wf hg hf;obtain⟨t',th',mF⟩:=W.self;have JO:(es.take i++List.replicate (es.length - i) zs).length=es.length:=by simp;omega
    obtain⟨M,hk⟩:=H.set K0 (y':=.arr z true (es.take i++List.replicate (es.length - i) zs)) (S0:=[(f,true)]) hl AH (fun p hp=>by simp only[List.mem_singleton]at hp;subst hp;exact AH) (by simp[dS]) W.size W.wf W.same W.dS fun hm _=>
     OR.On (by rw[JO];exact hb) mF W.dU (Nat.le_refl _) eG BL (Zu.mono hm) (fun h=>by cases h)
    refine fv.dE H (v:=.dk []) (x:=.tuple #[]) hp hq eP ?_ (FO H (.refl H) M hk (fun _ h=>h) (by rw[W.size];exact Nat.le_refl _) fun b' cs' bV ni=>j9 H.wf W.same (K0.apart m _ _ b' hl AH bV) ni) (.jg .nil)
     (uf H (.refl H) K0 hl (eB AH) W.same) (hw.2 hi)
    rw[he,L.desc _ _ hd];unfold se;simp only[Option.bind_some];have oA:Nat.beq (es.length - i) 0=false:=by
     cases hbq:Nat.beq (es.length - i) 0 with
     |false=>rfl
     |true=>have:=beq_iff.1 hbq;omega
    rw[oA];simp only[cond_false,L.desc _ _ hd,Option.bind_some,kI,xR fG sq,bO,gA,DH,J4 hg hf OJ eG]
   ·exact nop _ _ (by rw[show es.length - i=0 by omega]) (.inr ⟨_,_,_,rfl⟩) om
end
section
variable {T E:Env} {X:Cx} {ρ:Gh} {F:Nat→Prop} {o:Ob} {c:Nat} {af:AF} {f:Fr} {h:ab} {p:Oper} {K:OK}
theorem size_le {k bytes:Nat} (hk:k<1048576) (hb:bytes<1048576):(k+1)*(bytes+1)≤1099511627776:=by
 have h1:(k+1)*(bytes+1)≤1048576*1048576:=Nat.mul_le_mul hk hb;exact h1
theorem Mem.Kf (H:Mem X ρ F o c h) {z:Nat} {y:TO} (xN:∀(c:Nat) (ρ:Gh) (F:Nat→Prop) (n:Nat),ρ n=some (.nil z)→OR c ρ F h X.base n [] y):Mem X (cH ρ c (some (.nil z))) F ((c,y)::o) (c+1) h∧∀t v,VR c ρ F h t v→VR (c+1) (cH ρ c (some (.nil z))) F h t v:=by
 obtain⟨S,K⟩:=H.ex
 refine H.change K (fun _=>False) c y [] (Nat.le_refl _) H.wf (fun _ hf=>hf.elim) (fun _ _ _=>rfl) (fun _ _ _ hr=>hr) (fun _ _=>rfl) (fun _ hb=>hb) (fun _ hb hn=>absurd hb hn) om (H.BD _) (H.BE _) (H.BF _)
  (fun m y' bH hl=>?_) (fun y' hl=>?_) (xN _ _ _ _ (aP _ _ _)) (by simp[dS]) (by simp[dS]) (by simp)
 ·rw[aS,if_neg (fun e=>bH e.symm)]at hl;exact⟨hl,bN _ _ bH,fun _ _ hf=>hf.elim⟩
 ·rw[aS,if_pos rfl,Option.some.injEq]at hl;exact hl.symm
theorem Mem.VX (H:Mem X ρ F o c h) {z:Nat} (hz:0<z):Mem X (cH ρ c (some (.nil z))) F ((c,.arr z true [])::o) (c+1) h∧∀t v,VR c ρ F h t v→VR (c+1) (cH ρ c (some (.nil z))) F h t v:=
 H.Kf fun _ _ _ _ hn=>.nil hn hz
theorem Mem.UD (H:Mem X ρ F o c h) {S:Nat→Ft} (K:MO X ρ F o c h S) {m z l b0:Nat} {y y':TO} {S0:Ft} {h':ab} (hl:look o m=some y) (hb:ρ m=some (.arr b0 z l)) (gB:h.size≤h'.size) (lC:Wf h') (same:∀b,b<h.size→h'.get b=h.get b)
 (dn:∀b cs,F b→h.rd b=some cs→h'.rd b=some cs) (nv:∀p∈S0,p∈S m∨p.1=h.size) (AG:(dS S0).Nodup) (aN:∀x∈dS S0,x<h'.size) (fl:Bool) (u4:fl=true→(h'.rd h.size).isSome=true∧hd h' h.size=h.size∧∀x,(x,true)∈S0→h.size≠x) {q:Loc} (_:∀b,q≠ .dw b)
 (xN:(∀t v,VR c ρ F h t v→VR (c+1) (cH (cH ρ m none) c (some q)) (fun x=>F x∨(fl=true∧x=h.size)) h' t v)→OR (c+1) (cH (cH ρ m none) c (some q)) (fun x=>F x∨(fl=true∧x=h.size)) h' X.base c S0 y'):
 Mem X (cH (cH ρ m none) c (some q)) (fun x=>F x∨(fl=true∧x=h.size)) ((c,y')::fM o m) (c+1) h'∧∀t v,VR c ρ F h t v→VR (c+1) (cH (cH ρ m none) c (some q)) (fun x=>F x∨(fl=true∧x=h.size)) h' t v:=by
 have hm:=H.lt hl;have fQ:∀n,n≠m→n≠c→cH (cH ρ m none) c (some q) n=ρ n:=fun n h1 h2=>by rw[bN _ _ h2,bN _ _ h1]
 have hA:∀n l',n<c→cH (cH ρ m none) c (some q) n=some l'→ρ n=some l':=fun n l' hn h1=>by
  by_cases e:n=m
  ·subst e;rw[bN _ _ om,aP]at h1;cases h1
  ·rwa [fQ n e om]at h1
 have hB:∀n b',ρ n=some (.dw b')→cH (cH ρ m none) c (some q) n=some (.dw b'):=fun n b' hn=>by
  have:=H.names _ _ hn;by_cases e:n=m
  ·subst e;rw[hb]at hn;cases hn
  ·rwa [fQ n e om]
 have Fw:∀t v,VR c ρ F h t v→VR (c+1) (cH (cH ρ m none) c (some q)) (fun x=>F x∨(fl=true∧x=h.size)) h' t v:=fun t v=>VR.mono om hA hB (fun _ hb=>.inl hb) dn;have wF:∀n y1,n≠c→look ((c,y')::fM o m) n=some y1→n≠m∧look o n=some y1:=fun n y bH hy=>by
  rw[aS,if_neg (fun e=>bH e.symm),dM]at hy;by_cases e:n=m
  ·rw[if_pos e]at hy;cases hy
  ·rw[if_neg e]at hy;exact⟨e,hy⟩
 have NH:∀x∈dS S0,x∈dS (S m)∨x=h.size:=fun x hx=>by
  obtain⟨p,hp,rfl⟩:=List.mem_map.1 hx;rcases nv p hp with h1|e
  ·exact .inl (List.mem_map.2 ⟨p,h1,rfl⟩)
  ·exact .inr e
 refine H.change K (fun _=>False) c y' S0 gB lC (fun _ hf=>hf.elim) (fun b hb _=>same b hb) dn (fun b hb=>by unfold hd;rw[same b hb]) (fun _ hb=>.inl hb) (fun b hb hn=>?_) om hA hB (fun n l' hn=>?_)
  (fun n y' bH hy=>?_) (fun y' hy=>?_) (xN Fw) AG (fun x hx=>?_) fun x b hx hb=>?_
 ·rcases hb with hb|⟨hf,rfl⟩
  ·exact absurd hb hn
  ·obtain⟨g1,g2,g3⟩:=u4 hf;refine⟨g1,fun n y1 x bH hy hx e=>?_,fun x hx=>by rw[g2];exact g3 x hx,.inr (by rw[g2];exact H.pP.size)⟩;rw[g2]at e;subst e;have:=(K.fP n y1 _ (wF n y1 bH hy).2 (eB hx)).2.1;omega
 ·by_cases e:n=c
  ·omega
  ·by_cases e2:n=m
   ·omega
   ·rw[fQ n e2 e]at hn;have:=H.names _ _ hn;omega
 ·obtain⟨h1,h2⟩:=wF n y' bH hy;exact⟨h2,fQ n h1 bH,fun _ _ hf=>hf.elim⟩
 ·rw[aS,if_pos rfl,Option.some.injEq]at hy;exact hy.symm
 ·rcases NH x hx with h1|rfl
  ·obtain⟨q1,q2,q3⟩:=K.fP m y x hl h1;refine⟨q1,aN x hx,q3,fun n y1 bH hy hh=>?_⟩;obtain⟨h3,h4⟩:=wF n y1 bH hy;exact h3 (K.fO n m y1 _ _ h4 hl hh h1)
  ·refine⟨H.mA,aN _ hx,.inr H.pP.size,fun n y1 bH hy hh=>?_⟩;obtain⟨h3,h4⟩:=wF n y1 bH hy;have:=(K.fP n y1 _ h4 hh).2.1;omega
 ·rcases nv _ hx with h1|e
  ·exact K.apart m y x b hl h1 hb
  ·simp only at e;subst e;have:=H.wf.J2 b;have:=H.Lq hb;omega
theorem OR.named {base m n c':Nat} {ρ':Gh} {S:Ft} {y:TO} (W:Wf h) (H:OR c ρ F h base m S y) (hm:∀t v,VR c ρ F h t v→VR c' ρ' F h t v) (fQ:ρ' n=ρ m):OR c' ρ' F h base n S y:=by
 have kk:∀{S:Ft} {l:List TV} {vs:List Value},da c ρ F h base S l vs→da c' ρ' F h base S l vs:=fun hc=>hc.bA (T:=fun _=>False) W (fun _ _ _=>rfl) (fun _ h=>h) (fun _ _ _ h=>h) hm (fun _ _ hf=>hf.elim);cases H with
 |cells hb hg ht hc=>exact .cells (fQ.trans hb) hg ht (kk hc)
 |map hb hg hl hc bR=>exact .map (fQ.trans hb) hg hl (fun i e e' h1 h2=>let⟨q1,q2,q3,q4⟩:=hc i e e' h1 h2;⟨q1,q2,q3,hm _ _ q4⟩) bR
 |nil hb hz=>exact .nil (fQ.trans hb) hz
 |arr hb hg hf ht eG hz hl he iz hc hF=>exact .arr (fQ.trans hb) hg hf ht eG hz hl he iz (fun i j e t v q1 q2 q3=>hm _ _ (hc i j e t v q1 q2 q3)) hF
 |ia hb hz=>exact .ia (fQ.trans hb) hz
 |bB hb hg hf ht eG hz hl he b6 iW hc=>exact .bB (fQ.trans hb) hg hf ht eG hz hl he b6 iW (kk hc)
 |fW hb hg b6 hc bR=>exact .fW (fQ.trans hb) hg b6 (hc.bA (T:=fun _=>False) W (fun _ _ _=>rfl) (fun _ h=>h) (fun _ _ _ h=>h) hm (fun _ _ hf=>hf.elim)) bR
 |eQ hb hg=>exact .eQ (fQ.trans hb) hg
theorem Mem.rename (H:Mem X ρ F o c h) {m z:Nat} {y:TO} (hl:look o m=some y) {b l:Nat} (hb:ρ m=some (.arr b z l)):
 Mem X (cH (cH ρ m none) c (some (.arr b z l))) F ((c,y)::fM o m) (c+1) h∧∀t v,VR c ρ F h t v→VR (c+1) (cH (cH ρ m none) c (some (.arr b z l))) F h t v:=by
 obtain⟨S,K⟩:=H.ex;have e:(fun x=>F x∨(false=true∧x=h.size))=F:=by funext x;simp
 have:=H.UD K (S0:=S m) (y':=y) (q:=.arr b z l) hl hb (Nat.le_refl _) H.wf (fun _ _=>rfl) (fun _ _ _ h=>h) (fun p hp=>.inl hp) (K.EG m y hl) (fun x hx=>(K.fP m y x hl hx).2.1) false (fun h=>by cases h) (by simp) fun hm=>by
  rw[e]at hm ⊢;exact(K.ct m y hl).named H.wf hm ((aP _ _ _).trans hb.symm)
 rwa [e]at this
theorem qm (H:Mem X ρ F o c h) {x:TV} {zx n:Nat} {xs:List (List TV)} {op:List (Nat×List TV)} (he:Y8 o x=some (zx,xs,op)) (hz:zx=n∨zx=0∧op=[]) (iW:∀p∈op,p.2.all eR=true) {xv:Value} (hx:VR c ρ F h x xv):
 nG xv=some xs.length∧(∀p∈op,p.1<xs.length∧p.2.length=n)∧(∀e∈xs,∀t∈e,fz t=true)∧(xs=[]∨∃new,fE h n xs.length xv=some new∧(op=[]→ER c ρ F h n xs new)∧new.length=xs.length*n∧(∀e∈xs,e.length=n)∧dP c ρ F h (cZ xs op).flatten new):=by
 have done:∀{xs:List (List TV)} {new:List Value},ER c ρ F h n xs new→fE h n xs.length xv=some new→nG xv=some xs.length→nG xv=some xs.length∧(∀p∈([]:List (Nat×List TV)),p.1<xs.length∧p.2.length=n)∧(∀e∈xs,∀t∈e,fz t=true)∧(xs=[]∨∃new,fE h n xs.length xv=some new∧(([]:List (Nat×List TV))=[]→ER c ρ F h n xs new)∧new.length=xs.length*n∧(∀e∈xs,e.length=n)∧dP c ρ F h (cZ xs []).flatten new):=
  fun E h1 h2=>⟨h2,by simp,E.fz,.inr ⟨_,h1,fun _=>E,E.len,E.each,iL E.len E.each E.cell⟩⟩
 unfold Y8 at he;split at he
 ·rename_i m;split at he
  ·rename_i z w es hl;cases he;obtain⟨Sm,hO⟩:=H.ct hl;cases hx with
   |tk hn lx ha h0=>
    cases hO with
    |nil hb kI=>
     rcases h0 _ hb with rfl |⟨b,o',cs,q1,q2,q3,q4,rfl⟩
     ·exact⟨rfl,by simp,by simp,.inl rfl⟩
     ·exact⟨rfl,by simp,by simp,.inl rfl⟩
    |arr hb hg hf ht eG kI hlen he iz hc hF=>
     rename_i b f t0 gX bd cs;obtain⟨cap,h1,rfl⟩:=ha _ _ _ hb;have Sc:zx=n:=by omega
     subst Sc;refine done ⟨hlen,he,iz,hc⟩ ?_ rfl;simp only[fE,M.an,eW hf ht (aT hg),Option.bind_some,List.drop_zero,bo];rw[←hlen];simp
  ·rename_i z es Ll hl;split at he
   ·rename_i cC;cases he;obtain⟨Sm,hO⟩:=H.ct hl;have iz:∀e∈xs,∀t∈e,fz t=true:=fun e he t ht=>List.all_eq_true.1 (List.all_eq_true.1 cC e he) t ht;cases hx with
    |tk hn lx ha h0=>
     cases hO with
     |ia hb kI=>
      rcases h0 _ hb with rfl |⟨b,o',cs,q1,q2,q3,q4,rfl⟩
      ·exact⟨rfl,by simp,by simp,.inl rfl⟩
      ·exact⟨rfl,by simp,by simp,.inl rfl⟩
     |bB hb hg hf ht eG kI hlen he b6 acP hc=>
      rename_i b f t0 gX bd cs;obtain⟨cap,h1,rfl⟩:=ha _ _ _ hb;have Sc:zx=n:=by omega
      subst Sc;have pq:(cZ xs op).flatten.all eR=true:=by
       rw[List.all_eq_true];intro t ht;obtain⟨e,h1,h2⟩:=List.mem_flatten.1 ht;have key:∀(op:List (Nat×List TV)),(∀p∈op,p.2.all eR=true)→e∈cZ xs op→eR t=true:=by
        intro op
        induction op with
        |nil=>intro _ h1;have:=iz e h1 t h2;cases t<;>first|rfl |simp[fz]at this
        |cons p l ih=>
         intro iW h1;rcases List.mem_or_eq_of_mem_set h1 with h3|rfl
         ·exact ih (fun q hq=>iW q (List.mem_cons_of_mem _ hq)) h3
         ·exact List.all_eq_true.1 (iW p List.mem_cons_self) t h2
       exact key op iW h1
      obtain⟨hV,_⟩:=hc.Uv (fun t v hv hf=>hv.dC hf) pq;refine⟨rfl,acP,iz,.inr ⟨cs,?_,fun e=>?_,hlen,he,hV⟩⟩
      ·simp only[fE,M.an,eW hf ht (aT hg),Option.bind_some,List.drop_zero,bo];rw[←hlen];simp
      ·subst e;refine⟨hlen,he,iz,fun i j e t v q1 q2 q3=>?_⟩;obtain⟨f1,f2⟩:=fy he q1;refine hV.2 (i*zx+j) t v ?_ q3;show xs.flatten[i*zx+j]? =some t;have hj:j<zx:=by rw[←he e (List.mem_of_getElem? q1)];exact(List.getElem?_eq_some_iff.1 q2).1
       rw[←f1,List.getElem?_take,if_pos hj,List.getElem?_drop]at q2;exact q2
   ·cases he
  ·cases he
 ·cases he;cases hx with
  |nil h1=>subst h1;exact⟨rfl,by simp,by simp,.inl rfl⟩
  |sl q1 q2 q3 q4 q5 q6 q7 q8 q9 Q7=>
   rename_i b oo len cap cs;have Sc:zx=n:=by omega
   subst Sc;refine done (new:=(cs.drop oo).take (xs.length*zx)) ⟨by simp;rw[←q4]at q7;omega,q8,q9,fun i j e t v r1 r2 r3=>?_⟩ ?_ (by simp[nG,q4])
   ·rw[List.getElem?_take]at r3;split at r3
    ·rw[List.getElem?_drop]at r3;exact Q7 i j e t v r1 r2 (by rw[←r3];congr 1;omega)
    ·cases r3
   ·simp only[fE,M.an,q2,Option.bind_some,bo,and_true,List.length_drop];rw[←q4]at q7;omega
 ·cases he
theorem ER.ie {z:Nat} {es:List (List TV)} {cs:List Value} (A:ER c ρ F h z es cs) (hz:0<z):cs.all M.ie=true:=by
 rw[List.all_eq_true];intro v hv;obtain⟨k,hk⟩:=List.getElem?_of_mem hv;have Bc:k<cs.length:=(List.getElem?_eq_some_iff.1 hk).1;rw[A.len]at Bc;have hi:k / z<es.length:=by
  rw[Nat.div_lt_iff_lt_mul hz];exact Bc
 obtain⟨e,he⟩:∃e,es[k / z]? =some e:=⟨_,List.getElem?_eq_getElem hi⟩;have UA:=A.each e (List.mem_of_getElem? he);have hj:k % z<e.length:=by rw[UA];exact Nat.mod_lt _ hz
 obtain⟨t,ht⟩:∃t,e[k % z]? =some t:=⟨_,List.getElem?_eq_getElem hj⟩;have Us:k / z*z+k % z=k:=by rw[Nat.mul_comm];exact Nat.div_add_mod k z
 have hvr:=A.cell (k / z) (k % z) e t v he ht (by rw[Us];exact hk);have iz:=A.fz e (List.mem_of_getElem? he) t (List.mem_of_getElem? ht);have hoc:AE t=true:=by
  cases t<;>simp[M.fz]at iz<;>rfl
 exact Kd hoc hvr
structure DI (E:Env) (st xt elem n bytes:Nat):Prop where
 sd:E.desc st=some (.slice elem)
 xd:∃e,E.desc xt=some (.slice e)
 size:E.size elem=some n
 bytes:E.bytes elem=some bytes
 zero:∃z,E.zero elem=some z∧z.cells.size=n
theorem zc {base st xt elem n bytes:Nat} (A:DI E st xt elem n bytes) {s x:Value} (hs:Ln s=true) (X6:∀l k,s= .slice none l k→l=0∧k=0) (iB:∀b oo sp l k,s= .slice (some ⟨b,oo,sp⟩) l k→sp.isSome) (hx:nG x=some 0):cX E base h st xt s x=some (s,h):=by
 obtain⟨e,Nn⟩:=A.xd;obtain⟨z,VY,Sd⟩:=A.zero;unfold cX;rw[A.sd,Nn];simp only[Option.bind_some,A.size,A.bytes,VY,hx];simp only[lB,Sd,bO];cases s<;>simp[Ln]at hs;rename_i a l k;cases a with
 |none=>obtain⟨rfl,rfl⟩:=X6 l k rfl;simp
 |some a=>
  obtain⟨b,oo,sp⟩:=a;have:=iB b oo sp l k rfl;cases sp with
  |none=>simp at this
  |some q=>simp
theorem Sp {base st xt elem n bytes len:Nat} (A:DI E st xt elem n bytes) {x:Value} {new:List Value} (hx:nG x=some len) (hl:len≠0) (hb:(len+1)*(bytes+1)≤1099511627776) (hf:fE h n len x=some new) (hn:new.length=len*n):
 cX E base h st xt (.slice none 0 0) x=some (fresh h new n len):=by
 obtain⟨e,Nn⟩:=A.xd;obtain⟨z,VY,Sd⟩:=A.zero;unfold cX;rw[A.sd,Nn];simp only[Option.bind_some,A.size,A.bytes,VY,hx];simp only[lB,Sd,bO];simp[Fs,hl,aW.2 hb,hf,hn]
theorem FR {base st xt elem n bytes len b oo sl:Nat} (A:DI E st xt elem n bytes) {x:Value} {old new:List Value} (hx:nG x=some len) (hl:len≠0) (hb:(sl+len+1)*(bytes+1)≤1099511627776) (hf:fE h n len x=some new) (hn:new.length=len*n)
 (ho:M.an h b oo (sl*n)=some old):cX E base h st xt (.slice (some ⟨b,oo,some n⟩) sl sl) x=some (fresh h (old++new) n (sl+len)):=by
 obtain⟨e,Nn⟩:=A.xd;obtain⟨z,VY,Sd⟩:=A.zero;unfold cX;rw[A.sd,Nn];simp only[Option.bind_some,A.size,A.bytes,VY,hx];simp only[lB,Sd,bO];simp[Fs,hl,aW.2 hb,hf,hn,ho]
theorem Sr {base st xt elem n bytes len b sl cap f bd:Nat} (A:DI E st xt elem n bytes) {x:Value} {old new cs:List Value} (hx:nG x=some len) (hl:len≠0) (hb:(sl+len+1)*(bytes+1)≤1099511627776) (hf:fE h n len x=some new) (hn:new.length=len*n)
 (ho:M.an h b 0 (sl*n)=some old) (fK:cap≠sl) (hc:h.cellsOf b=some cs) (nJ:h.dU b=some (f,b,bd)) (eG:base≤f) (lK:new.all ie=true):
 cX E base h st xt (.slice (some ⟨b,0,some n⟩) sl cap) x=some (.slice (some ⟨h.size,0,some n⟩) (sl+len) (sl+len+1),fp h f (bif Nat.beq (sl*n) cs.length then bd else h.size) (old++new)):=by
 obtain⟨e,Nn⟩:=A.xd;obtain⟨z,VY,Sd⟩:=A.zero;unfold cX;rw[A.sd,Nn];simp only[Option.bind_some,A.size,A.bytes,VY,hx];simp only[lB,Sd,bO];have h1:new.all ie=true:=lK;simp[Fs,hl,aW.2 hb,hf,hn,ho,fK,hc,nJ,aW.2 eG,h1];rfl
theorem Mem.flag {n:Nat} {xs:List (List TV)} {o1:Ob} (H:Mem X ρ F ((c,.arr n true xs)::o1) (c+1) h) (w:Bool):∃F',Mem X ρ F' ((c,.arr n w xs)::o1) (c+1) h∧(∀t v,VR (c+1) ρ F h t v→VR (c+1) ρ F' h t v)∧∀b,F b→F' b:=by
 cases w with
 |true=>exact⟨F,H,fun _ _ h=>h,fun _ h=>h⟩
 |false=>
  obtain⟨F',h1,h2,h3,_⟩:=H.share c;refine⟨F',h1.less fun m y hl=>?_,h2,h3⟩;have:jI ((c,TO.arr n true xs)::o1) c=fq ((c,TO.arr n true xs)::o1) c (.arr n false xs):=by
   unfold jI;rw[aS,if_pos rfl]
  rw[this,eJ];rw[aS]at hl;by_cases e:m=c
  ·subst e;rw[if_pos rfl,aS,if_pos rfl];rw[if_pos rfl]at hl;simpa using hl
  ·rw[if_neg e,aS,if_neg (fun e2=>e e2.symm)]
   rwa [if_neg (fun e2=>e e2.symm)]at hl
theorem ug (H:Mem X ρ F o c h) {m:Nat} {y:TO} {l:Option Loc}:∀n yn,look o n=some yn→n∉[m]→(∃y',look ((c,y)::fM o m) n=some y')∧cH (cH ρ m none) c l n=ρ n:=by
 intro n yn hn bH;have oX:n≠m:=by simpa using bH
 have:=H.lt hn;exact⟨⟨yn,by rw[aS,if_neg om,dM,if_neg oX];exact hn⟩,by rw[bN _ _ om,bN _ _ oX]⟩
theorem II {xs:List (List TV)}:∀{op:List (Nat×List TV)} {es:List (List TV)},(∀p∈op,p.1<es.length)→cZ (es++xs) op=cZ es op++xs∧(cZ es op).length=es.length
 |[],_,_=>⟨rfl,rfl⟩
 |p::l,es,h=>by
  obtain⟨a,b⟩:=II (xs:=xs) (op:=l) (es:=es) fun q hq=>h q (List.mem_cons_of_mem _ hq);have:=h p List.mem_cons_self;exact⟨by rw[cZ,cZ,a,List.set_append_left _ _ om],by rw[cZ,List.length_set,b]⟩
theorem Su {es xs:List (List TV)} {q:Nat×List TV} {op:List (Nat×List TV)} (h:∀p∈op,p.1<es.length):cZ (es++xs) ((es.length+q.1,q.2)::op)=cZ es op++cZ xs [q]:=by
 obtain⟨a,b⟩:=II (xs:=xs) h;rw[cZ,a,List.set_append_right _ _ om,b];simp[cZ]
theorem dP.Zz {l:List TV} {m:List Value} (H:dP c ρ F h l m) (ho:∀t∈l,AE t=true):m.all M.ie=true:=xR (List.all_eq_true.2 ho) H
theorem ly (H:Mem X ρ F o c h) {st xt elem:TypeId} {n bytes:Nat} {xs:List (List TV)} {op:List (Nat×List TV)} {sv xv:Value} {F1:Nat→Prop} {o1:Ob} {iX:Gh} {y1 y2:TO} {ns:List Nat} (A:DI E st xt elem n bytes) (oA:0<n) (hlen:nG xv=some xs.length)
 (lU:xs=[]∨∃new,fE h n xs.length xv=some new∧(op=[]→ER c ρ F h n xs new)∧new.length=xs.length*n∧(∀e∈xs,e.length=n)∧dP c ρ F h (cZ xs op).flatten new)
 (fin:∀v h',cX E X.base h st xt sv xv=some (v,h')→dx E X.base af p h=some (.val v,h')) (hp:aZ E af p=none) (hq:b7 E af p=none) (eP:bw E af p=none)
 (M1:Mem X iX F1 o1 c h) (k1:∀t v,VR c ρ F h t v→VR c iX F1 h t v) (f1:∀b,F b→F1 b) (w1:∀m y,look o m=some y→m∉ns→(∃y',look o1 m=some y')∧iX m=ρ m)
 (uT:sv= .slice none 0 0∨∃b oo cs,F b∧h.rd b=some cs∧oo≤cs.length∧sv= .slice (some ⟨b,oo,some n⟩) 0 0) (mQ:(xs.length+1)*(bytes+1)≤1099511627776)
 (tR:xs=[]→∀(c:Nat) (ρ:Gh) (F:Nat→Prop) (m:Nat),ρ m=some (.nil n)→OR c ρ F h X.base m [] y1)
 (mG:∀new,(op=[]→ER c iX F1 h n xs new)→new.length=xs.length*n→(∀e∈xs,e.length=n)→dP c iX F1 h (cZ xs op).flatten new→Mem X (cH iX c (some (.arr h.size n xs.length))) F1 ((c,y1)::o1) (c+1) (h.push (.cells new h.size h.size 0))∧∀t v,VR c iX F1 h t v→VR (c+1) (cH iX c (some (.arr h.size n xs.length))) F1 (h.push (.cells new h.size h.size 0)) t v)
 (fl:∀{iX:Gh} {F1:Nat→Prop} {h1:ab},Mem X iX F1 ((c,y1)::o1) (c+1) h1→∃F',Mem X iX F' ((c,y2)::o1) (c+1) h1∧(∀t v,VR (c+1) iX F1 h1 t v→VR (c+1) iX F' h1 t v)∧∀b,F1 b→F' b)
 (hK:K (.tk c) ((c,y2)::o1) (c+1) (.dE ns)):fv E X ρ F o c af h p K:=by
 have Kg:∀m y,look o m=some y→m≠c:=fun m y hl=>by have:=H.lt hl;omega
 by_cases tJ:xs.length=0
 ·have LN:xs=[]:=List.length_eq_zero_iff.1 tJ;obtain⟨M2,k2⟩:=M1.Kf (y:=y1) (z:=n) (tR LN);obtain⟨F3,M3,k3,f3⟩:=fl M2;have vh:cX E X.base h st xt sv xv=some (sv,h):=by
   refine zc A ?_ ?_ ?_ (by rw[hlen,tJ])
   ·rcases uT with rfl |⟨b,oo,cs,_,_,_,rfl⟩<;>rfl
   ·rintro l k e;rcases uT with rfl |⟨b,oo,cs,_,_,_,rfl⟩<;>cases e;exact⟨rfl,rfl⟩
   ·rintro b oo sp l k e;rcases uT with rfl |⟨b,oo,cs,_,_,_,rfl⟩<;>cases e;rfl
  refine fv.dE H hp hq eP (fin _ _ vh) ⟨M3,fun t x hx=>k3 t x (k2 t x (k1 t x hx)),Nat.le_refl _,fun b hb=>f3 b (f1 b hb),fun _ _ _ hr=>hr⟩ ?_ (fun m y hl hm=>⟨?_,?_,fun b _=>⟨rfl,fun _ hr=>hr⟩⟩) hK
  ·refine .tk om (by rcases uT with rfl |⟨b,oo,cs,_,_,_,rfl⟩<;>rfl) (fun b z len hx=>?_) (fun z hx=>?_)
   ·rw[aP]at hx;cases hx
   ·rw[aP]at hx;cases hx;rcases uT with rfl |⟨b,oo,cs,q1,q2,q3,rfl⟩
    ·exact .inl rfl
    ·exact .inr ⟨b,oo,cs,f3 _ (f1 _ q1),q2,oA,q3,rfl⟩
  ·rw[aS,if_neg (Kg m y hl).symm];exact(w1 m y hl hm).1
  ·rw[bN _ _ (Kg m y hl)];exact(w1 m y hl hm).2
 ·rcases lU with e|⟨new,VZ,hE,AB,Nl,hV⟩
  ·subst e;simp at tJ
  ·obtain⟨M2,k2⟩:=mG new (fun e=>(hE e).mono k1) AB Nl (hV.rU k1);obtain⟨F3,M3,k3,f3⟩:=fl M2;have vh:cX E X.base h st xt sv xv=some (fresh h new n xs.length):=by
    rcases uT with rfl |⟨b,oo,cs,_,q2,q3,rfl⟩
    ·exact Sp A hlen tJ mQ VZ AB
    ·have:=FR (base:=X.base) (sl:=0) (old:=[]) (b:=b) (oo:=oo) A hlen tJ (by simpa using mQ) VZ AB (by simp[M.an,q2,takeN]);simpa using this
   refine fv.dE H hp hq eP (fin _ _ vh) ⟨M3,fun t x hx=>k3 t x (k2 t x (k1 t x hx)),by show h.size≤h.size+1;omega,fun b hb=>f3 b (f1 b hb),fun b cs hb hr=>(gh H.wf.le _ (H.Lq hb)).trans hr⟩ ?_ (fun m y hl hm=>⟨?_,?_,fun b hb=>?_⟩) hK
   ·refine .tk om rfl (fun b z len hx=>?_) (fun z hx=>?_)
    ·rw[aP]at hx;cases hx;exact⟨_,om,rfl⟩
    ·rw[aP]at hx;cases hx
   ·rw[aS,if_neg (Kg m y hl).symm];exact(w1 m y hl hm).1
   ·rw[bN _ _ (Kg m y hl)];exact(w1 m y hl hm).2
   ·have:=H.y6 hl hb;exact⟨by rw[ab.au,if_neg om],fun cs hr=>by rw[gh H.wf.le _ this];exact hr⟩
theorem Kh (H:Mem X ρ F o c h) {st xt elem:TypeId} {z bytes:Nat} {xs:List (List TV)} {xv:Value} {S:Nat→Ft} (K0:MO X ρ F o c h S) {m b f t0 gX bd len cap l0:Nat} {w:Bool} {y y2:TO} {Sq:Ft} {cs new:List Value} (A:DI E st xt elem z bytes) (hlen:nG xv=some xs.length) (tJ:xs.length≠0)
 (fin:∀v h',cX E X.base h st xt (.slice (some ⟨b,0,some z⟩) len cap) xv=some (v,h')→dx E X.base af p h=some (.val v,h')) (hp:aZ E af p=none) (hq:b7 E af p=none) (eP:bw E af p=none)
 (hl:look o m=some y) (hS:S m=(f,w)::Sq) (hb:ρ m=some (.arr b z l0)) (hg:h.get b=some (.cells cs f t0 gX)) (hf:h.dU b=some (f,b,bd)) (ht:bd≤b) (eG:X.base≤f) (_:0<z) (K3:len*z≤cs.length) (LO:cs.length=len*z∨w=true) (fK:len≤cap)
 (mQ:(len+xs.length+1)*(bytes+1)≤1099511627776) (VZ:fE h z xs.length xv=some new) (AB:new.length=xs.length*z) (lK:new.all ie=true) (hw:w=true∨Sq=[])
 (xN:∀{c':Nat} {ρ':Gh} {F':Nat→Prop} {h':ab} {b' f' t1 AA uZ:Nat} {T:Nat→Prop},(∀t v,VR c ρ F h t v→VR c' ρ' F' h' t v)→(∀b,F b→F' b)→(∀b cs,F b→h.rd b=some cs→h'.rd b=some cs)→(∀b,b<h.size→¬T (hd h b)→h'.get b=h.get b)→(∀x∈dS Sq,¬T x)→
  ρ' c=some (.arr b' z (len+xs.length))→h'.get b'=some (.cells (cs.take (len*z)++new) f' t1 AA)→h'.dU b'=some (f',b',uZ)→uZ≤b'→X.base≤f'→(w=false→F' b')→OR c' ρ' F' h' X.base c ((f',w)::Sq) y2)
 (hK:K (.tk c) ((c,y2)::fM o m) (c+1) (.dE [m])):fv E X ρ F o c af h p K:=by
 have gA:=eW hf ht (aT hg);have EE:M.an h b 0 (len*z)=some (cs.take (len*z)):=by
  simp only[M.an,gA,Option.bind_some,List.drop_zero,bo];simp[K3]
 obtain⟨c0,cL⟩:=b9 hf;simp only at cL;have AH:f∈dS (S m):=by rw[hS];exact List.mem_cons_self
 have oY:=K0.EG m _ hl;rw[hS]at oY;obtain⟨n1,n2⟩:=List.nodup_cons.1 oY;by_cases b6:cap=len
 ·subst b6;have vh:=FR (base:=X.base) A hlen tJ mQ VZ AB EE;have V0:(h.push (.cells (cs.take (cap*z)++new) h.size h.size 0)).get h.size=some (.cells (cs.take (cap*z)++new) h.size h.size 0):=by rw[ab.au,if_pos rfl]
  have dn:∀b cs',F b→h.rd b=some cs'→(h.push (.cells (cs.take (cap*z)++new) h.size h.size 0)).rd b=some cs':=fun b cs' hb hr=>(gh H.wf.le _ (H.Lq hb)).trans hr;have OM:∀b,b<h.size→(h.push (.cells (cs.take (cap*z)++new) h.size h.size 0)).get b=h.get b:=fun b hb=>by rw[ab.au,if_neg om]
  have acQ:∀F3,(∀b,F b→F3 b)→Mem X (cH (cH ρ m none) c (some (.arr h.size z (cap+xs.length)))) F3 ((c,y2)::fM o m) (c+1) (h.push (.cells (cs.take (cap*z)++new) h.size h.size 0))→(∀t x,VR c ρ F h t x→VR (c+1) (cH (cH ρ m none) c (some (.arr h.size z (cap+xs.length)))) F3 (h.push (.cells (cs.take (cap*z)++new) h.size h.size 0)) t x)→fv E X ρ F o c af h p K:=by
   intro F3 f3 M3 k3;refine fv.dE H hp hq eP (fin _ _ vh) ⟨M3,k3,by show h.size≤h.size+1;omega,f3,dn⟩ ?_ (fun n y ED bH=>?_) hK
   ·refine .tk om rfl (fun b' z' len hx=>?_) (fun z hx=>?_)
    ·rw[aP]at hx;cases hx;exact⟨cap+xs.length+1,om,by simp⟩
    ·rw[aP]at hx;cases hx
   ·obtain⟨q1,q2⟩:=ug H (y:=y2) (l:=some (.arr h.size z (cap+xs.length))) n y ED bH;have aN:=fun b' bV=>H.y6 (b:=b') ED bV;exact⟨q1,q2,fun b' bV=>⟨OM b' (aN b' bV),fun cs hr=>(gh H.wf.le _ (aN b' bV)).trans hr⟩⟩
  have acR:Wf (h.push (.cells (cs.take (cap*z)++new) h.size h.size 0)):=H.wf.push fun cs f di bd e=>by cases e;exact Nat.le_refl _
  obtain⟨M3,k3⟩:=H.UD K0 (S0:=(h.size,w)::Sq) (y':=y2) (q:=.arr h.size z (cap+xs.length)) (h':=h.push (.cells (cs.take (cap*z)++new) h.size h.size 0)) hl hb (by rw[ab.size_push];omega) acR OM dn (fun p hp=>by
   rcases List.mem_cons.1 hp with rfl |hp
   ·exact .inr rfl
   ·rw[hS];exact .inl (List.mem_cons_of_mem _ hp)) (List.nodup_cons.2 ⟨fun hx=>by
    have:=(K0.fP m _ h.size hl (by rw[hS];exact List.mem_cons_of_mem _ hx)).2.1;omega,n2⟩) (fun x hx=>by
    rw[ab.size_push];rcases List.mem_cons.1 hx with rfl |hx
    ·simp
    ·have:=(K0.fP m _ x hl (by rw[hS];exact List.mem_cons_of_mem _ hx)).2.1;omega) (!w) (fun FT=>by
    have lC:w=false:=by simpa using FT
    subst lC;have hSq:Sq=[]:=by rcases hw with h|h;cases h;exact h
    subst hSq;exact⟨by rw[eW (cG V0 V0) (Nat.zero_le _) (aT V0)];rfl,cu V0,by simp⟩) (by simp) fun hm=>
   xN (T:=fun _=>False) hm (fun _ h=>.inl h) dn (fun b hb _=>OM b hb) (fun _ _ hf=>hf.elim) (aP _ _ _) V0 (cG V0 V0) (Nat.zero_le _) H.mA (fun h=>.inr ⟨by simp[h],rfl⟩)
  exact acQ _ (fun _ h=>.inl h) M3 k3
 ·have vh:=Sr (base:=X.base) (cap:=cap) A hlen tJ mQ VZ AB EE b6 (aT hg) hf eG lK;obtain⟨dv,NP⟩:∃t,t=(bif Nat.beq (len*z) cs.length then bd else h.size):=⟨_,rfl⟩;rw[←NP]at vh;have AT:=H.wf.lt hg;have ZA:dv≤h.size:=by cases Na:Nat.beq (len*z) cs.length<;>rw[Na]at NP<;>simp only[cond_true,cond_false]at NP<;>omega
  have ZB:dv=bd∨w=true:=by
   rcases LO with e|e
   ·left;rw[NP,e,show Nat.beq (len*z) (len*z)=true from beq_iff.2 rfl];rfl
   ·exact .inr e
  have ON:∀x,x<h.size→hd h x≠f→(fp h f dv (cs.take (len*z)++new)).get x=h.get x:=fun x hx Lr=>by
   rw[ext_get cL,if_neg om,if_neg];intro e;subst e;exact Lr (cu cL)
  have acS:∀x cs',F x→h.rd x=some cs'→(fp h f dv (cs.take (len*z)++new)).rd x=some cs':=fun x cs' hx hr=>by
   rcases ZB with e|e
   ·rw[e];exact Oo H.wf cL hr
   ·exact j9 H.wf ON (K0.apart m _ f x hl (by rw[hS,e];exact List.mem_cons_self) hx) hr
  obtain⟨M2,k2⟩:=H.Zf K0 dv (len':=len+xs.length) (cs':=cs.take (len*z)++new) (y':=y2) hl hS hb hg hf ht ZA ZB fun hm same dn vi hfc=>
   xN (T:=fun x=>x=f) hm (fun _ h=>.inl h) dn same (fun x hx e=>n1 (by subst e;exact hx)) (aP _ _ _) vi hfc ZA eG (fun hw=>.inr ⟨hw,rfl⟩)
  refine fv.dE H hp hq eP (fin _ _ vh) ⟨M2,k2,by rw[tZ];omega,fun _ h=>.inl h,acS⟩ ?_ (fun n y ED bH=>?_) hK
  ·refine .tk om rfl (fun b' z' len hx=>?_) (fun z hx=>?_)
   ·rw[aP]at hx;cases hx;exact⟨_,om,rfl⟩
   ·rw[aP]at hx;cases hx
  ·obtain⟨q1,q2⟩:=ug H (y:=y2) (l:=some (.arr h.size z (len+xs.length))) n y ED bH;have oX:n≠m:=by simpa using bH
   refine⟨q1,q2,fun b' bV=>?_⟩;obtain⟨aN,hh⟩:=H.DG K0 ED bV;have ZC:hd h b'≠f:=fun e=>by
    rw[e]at hh;exact oX (K0.fO n m _ _ _ ED hl hh AH)
   exact⟨ON b' aN ZC,fun cs hr=>j9 H.wf ON ZC hr⟩
theorem IJ (H:Mem X ρ F o c h) {st xt elem:TypeId} {z bytes:Nat} {xs:List (List TV)} {xv:Value} {S:Nat→Ft} (K0:MO X ρ F o c h S) {m b f t0 gX bd len cap:Nat} {w:Bool} {y y2:TO} {Sq:Ft} {cs new:List Value} (A:DI E st xt elem z bytes) (hlen:nG xv=some xs.length) (tJ:xs.length≠0)
 (fin:∀v h',cX E X.base h st xt (.slice (some ⟨b,0,some z⟩) len cap) xv=some (v,h')→dx E X.base af p h=some (.val v,h')) (hp:aZ E af p=none) (hq:b7 E af p=none) (eP:bw E af p=none)
 (hl:look o m=some y) (hS:S m=(f,w)::Sq) (hb:ρ m=some (.arr b z len)) (hg:h.get b=some (.cells cs f t0 gX)) (hf:h.dU b=some (f,b,bd)) (ht:bd≤b) (eG:X.base≤f) (hz:0<z) (K3:cs.length=len*z) (fK:len≤cap)
 (mQ:(len+xs.length+1)*(bytes+1)≤1099511627776) (VZ:fE h z xs.length xv=some new) (AB:new.length=xs.length*z) (lK:new.all ie=true) (hw:w=true∨Sq=[])
 (xN:∀{c':Nat} {ρ':Gh} {F':Nat→Prop} {h':ab} {b' f' t1 AA uZ:Nat} {T:Nat→Prop},(∀t v,VR c ρ F h t v→VR c' ρ' F' h' t v)→(∀b,F b→F' b)→(∀b cs,F b→h.rd b=some cs→h'.rd b=some cs)→(∀b,b<h.size→¬T (hd h b)→h'.get b=h.get b)→(∀x∈dS Sq,¬T x)→
  ρ' c=some (.arr b' z (len+xs.length))→h'.get b'=some (.cells (cs++new) f' t1 AA)→h'.dU b'=some (f',b',uZ)→uZ≤b'→X.base≤f'→(w=false→F' b')→OR c' ρ' F' h' X.base c ((f',w)::Sq) y2)
 (hK:K (.tk c) ((c,y2)::fM o m) (c+1) (.dE [m])):fv E X ρ F o c af h p K:=by
 have e:cs.take (len*z)=cs:=List.take_of_length_le om;exact Kh H K0 A hlen tJ fin hp hq eP hl hS hb hg hf ht eG hz om (.inl K3) fK mQ VZ AB lK hw (by rw[e];exact xN) hK
theorem FU (L:cD T E) (H:Mem X ρ F o c h) {st xt:TypeId} {l:Int} {sv:Value} {fl:Bool} (hw:yE T st xt l o c K) (hs:VR c ρ F h (.sl 0 [] fl) sv) (hp:aZ E af p=none) (hq:b7 E af p=none) (eP:bw E af p=none)
 (fin:∀v h',kh E h st xt sv (.int .i64 l)=some (v,h')→dx E X.base af p h=some (.val v,h')):fv E X ρ F o c af h p K:=by
 have Kg:∀m y,look o m=some y→m≠c:=fun m y hl=>by have:=H.lt hl;omega
 have e:sv= .slice none 0 0:=by
  cases hs with
  |nil=>rfl
  |sl q1 q2 q3=>omega
 subst e;unfold yE at hw;split at hw
 ·rename_i elem k hd Nn;split at hw
  ·rename_i n bytes z hn Hw hz;obtain⟨kI,pq⟩:=L.zero _ _ hz;split at hw
   ·rename_i zs hc j6;simp only[Bool.and_eq_true,beq_iff,ba]at hc;obtain⟨⟨oy,u0⟩,IK⟩:=hc;split at hw
    ·rename_i Q4;obtain⟨⟨b1,b2⟩,hK⟩:=hw;have mQ:(l.toNat+1)*(bytes+1)≤1099511627776:=size_le om IK;have sq:=gG (c:=c) (ρ:=ρ) (F:=F) (h:=h) pq j6;have Lu:zs.length=n:=by have:=sq.1;simp only[Array.length_toList]at this;omega
     have hE:=ER.replicate sq Lu Q4 l.toNat
     obtain⟨M2,k2⟩:=H.yK hE u0;have vh:kh E h st xt (.slice none 0 0) (.int .i64 l)=some (fresh h (a6 z.cells.toList l.toNat) n l.toNat):=by
      unfold kh;rw[L.desc _ _ hd,L.desc _ _ Nn];simp only[Option.bind_some,L.size _ _ hn,L.bytes _ _ Hw,kI];simp only[lB,oy,bO];rw[show Nat.beq n n=true from beq_iff.2 rfl,show Nat.blt 0 n=true from ba.2 u0,show Nat.blt 0 l.toNat=true from ba.2 om,aW.2 mQ];rfl
     rw[List.length_replicate]at M2 k2;refine fv.dE H hp hq eP (fin _ _ vh) ⟨M2,k2,by show h.size≤h.size+1;omega,fun _ h=>h,fun b cs hb hr=>(gh H.wf.le _ (H.Lq hb)).trans hr⟩ ?_ (fun m y hl hm=>⟨?_,?_,fun b hb=>?_⟩) hK
     ·refine .tk om rfl (fun b z len hx=>?_) (fun z hx=>?_)
      ·rw[aP]at hx;cases hx;exact⟨_,om,rfl⟩
      ·rw[aP]at hx;cases hx
     ·rw[aS,if_neg (Kg m y hl).symm];exact⟨y,hl⟩
     ·rw[bN _ _ (Kg m y hl)]
     ·have:=H.y6 hl hb;exact⟨by rw[ab.au,if_neg om],fun cs hr=>by rw[gh H.wf.le _ this];exact hr⟩
    ·exact hw.elim
   ·exact hw.elim
  ·exact hw.elim
 ·exact hw.elim
theorem IL (L:cD T E) (H:Mem X ρ F o c h) {st xt:TypeId} {s x:TV} {sv xv:Value} (hw:Df T st xt s x o c K) (hs:VR c ρ F h s sv) (hx:VR c ρ F h x xv) (hp:aZ E af p=none) (hq:b7 E af p=none) (eP:bw E af p=none)
 (fin:∀v h',cX E X.base h st xt sv xv=some (v,h')→dx E X.base af p h=some (.val v,h')):fv E X ρ F o c af h p K:=by
 have w0:∀m y,look o m=some y→m∉([]:List Nat)→(∃y',look o m=some y')∧ρ m=ρ m:=fun m y hl _=>⟨⟨y,hl⟩,rfl⟩
 -- a slice without elements
 have emp:∀{z n:Nat},z=n∨z=0→VR c ρ F h (.sl z [] true) sv→sv= .slice none 0 0∨∃b oo cs,F b∧h.rd b=some cs∧oo≤cs.length∧sv= .slice (some ⟨b,oo,some n⟩) 0 0:=by
  intro z n hz hs;cases hs with
  |nil=>exact .inl rfl
  |sl q1 q2 q3 q4 q5 q6 q7 q8 q9 Q7=>
   have Sc:z=n:=by omega
   subst Sc;simp at q4;subst q4;rw[q6 rfl];exact .inr ⟨_,_,_,q1,q2,om,rfl⟩
 have ZD:∀{y:TO} {o1:Ob} {iX:Gh} {F1:Nat→Prop} {h1:ab},Mem X iX F1 ((c,y)::o1) (c+1) h1→∃F',Mem X iX F' ((c,y)::o1) (c+1) h1∧(∀t v,VR (c+1) iX F1 h1 t v→VR (c+1) iX F' h1 t v)∧∀b,F1 b→F' b:=
  fun {y o1 iX F1 h1} M=>⟨F1,M,fun _ _ h=>h,fun _ h=>h⟩
 have closed:∀{e:List TV},(∀t∈e,fz t=true)→∀t∈e,nP t=true:=fun {e} he t ht=>by
  have:=he t ht;unfold nP;split<;>first|rfl |exact this
 unfold Df at hw;split at hw
 ·rename_i elem aeA wm Nn;split at hw
  ·rename_i n bytes z0 zx xs hn Hw BL fT;split at hw
   ·rename_i hc;simp only[Bool.and_eq_true,beq_iff,ba,Bool.or_eq_true]at hc;obtain⟨⟨⟨V1,oA⟩,hzx⟩,IK⟩:=hc;have size:∀{k:Nat},k<1048576→(k+1)*(bytes+1)≤1099511627776:=fun {k} hk=>size_le hk IK;have A:DI E st xt elem n bytes:=⟨L.desc _ _ wm,⟨_,L.desc _ _ Nn⟩,L.size _ _ hn,L.bytes _ _ Hw,_,(L.zero _ _ BL).1,V1⟩;obtain⟨hlen,_,Yh,lU⟩:=qm H fT (hzx.imp id fun h=>⟨h,rfl⟩) (by simp) hx
    have V2:∀{iX:Gh} {F1:Nat→Prop} {o1:Ob},Mem X iX F1 o1 c h→∀new,(([]:List (Nat×List TV))=[]→ER c iX F1 h n xs new)→new.length=xs.length*n→(∀e∈xs,e.length=n)→dP c iX F1 h (cZ xs []).flatten new→Mem X (cH iX c (some (.arr h.size n xs.length))) F1 ((c,.arr n true xs)::o1) (c+1) (h.push (.cells new h.size h.size 0))∧∀t v,VR c iX F1 h t v→VR (c+1) (cH iX c (some (.arr h.size n xs.length))) F1 (h.push (.cells new h.size h.size 0)) t v:=
     fun M1 new hE _ _ _=>M1.yK (hE rfl) oA
    split at hw
    ·rename_i z;split at hw
     ·rename_i hz;simp only[Bool.or_eq_true,beq_iff]at hz;obtain⟨mQ,hK⟩:=hw;exact ly H A oA hlen lU fin hp hq eP H (fun _ _ h=>h) (fun _ h=>h) w0 (emp hz hs) (size mQ) (fun e c ρ F m hm=>by subst e;exact .nil hm oA) (V2 H) ZD hK
     ·exact hw.elim
    ·rename_i m;split at hw
     ·rename_i z w es hl;split at hw
      ·rename_i hz;rw[beq_iff]at hz;subst hz;obtain⟨OO,hK⟩:=hw;have mQ:=size OO;obtain⟨S,K0⟩:=H.ex;have hO:=K0.ct m _ hl;generalize hS:S m=Sm at hO;have uU:=hO.tk rfl hs;cases hO with
       |nil hb kI=>
        rcases uU with⟨_,_,uT⟩|⟨b,cap,h1,_⟩
        ·obtain⟨M1,k1⟩:=H.gone hl rfl;refine ly H (ns:=[m]) (y1:=.arr z true xs) (y2:=.arr z w xs) A oA hlen lU fin hp hq eP M1 k1 (fun _ h=>h) (fun n y ED bH=>?_) (uT.imp id fun⟨b,o',cs,q1,q2,q3,q4,q5⟩=>⟨b,o',cs,q1,q2,q4,q5⟩) (by simpa using mQ) (fun e c ρ F m hm=>by subst e;exact .nil hm oA) (V2 M1) (fun M=>M.flag w) (by simpa using hK);have oX:n≠m:=by simpa using bH
         exact⟨⟨y,by rw[dM,if_neg oX];exact ED⟩,bN _ _ oX⟩
        ·rw[hb]at h1;cases h1
       |arr hb hg hf ht eG kI cY pK iz hc hF=>
        rename_i b f t0 gX bd cs;rcases uU with⟨_,h1,_⟩|⟨b',cap,h1,fK,rfl⟩
        ·rw[hb]at h1;cases h1
        ·rw[hb]at h1;cases h1;by_cases tJ:xs.length=0
         ·have LN:xs=[]:=List.length_eq_zero_iff.1 tJ;subst LN;obtain⟨M2,k2⟩:=H.rename hl hb
          have vh:cX E X.base h st xt (.slice (some ⟨b,0,some z⟩) es.length cap) xv=some (.slice (some ⟨b,0,some z⟩) es.length cap,h):=
           zc A rfl (by rintro l k e;cases e) (by rintro b oo sp l k e;cases e;rfl) hlen
          rw[List.append_nil]at hK;refine fv.dE H hp hq eP (fin _ _ vh) ⟨M2,k2,Nat.le_refl _,fun _ h=>h,fun _ _ _ hr=>hr⟩ ?_ (fun n y ED bH=>?_) hK
          ·refine .tk om rfl (fun b' z' len hx=>?_) (fun z hx=>?_)
           ·rw[aP]at hx;cases hx;exact⟨_,fK,rfl⟩
           ·rw[aP]at hx;cases hx
          ·obtain⟨q1,q2⟩:=ug H (y:=.arr z w es) (l:=some (.arr b z es.length)) n y ED bH;exact⟨q1,q2,fun b' _=>⟨rfl,fun _ hr=>hr⟩⟩
         ·rcases lU with e|⟨new,mG,hE,AB,Nl,hV⟩
          ·subst e;simp at tJ
          ·have hEE:ER c ρ F h z (es++xs) (cs++new):=ER.append ⟨cY,pK,iz,hc⟩ (hE rfl);refine IJ H K0 (y2:=.arr z w (es++xs)) A hlen tJ fin hp hq eP hl hS hb hg hf ht eG kI cY fK mQ mG AB ((hE rfl).ie kI) (.inr rfl) (fun hm rV dn same hT IM mF EC V3 IN R1=>?_) hK;exact OR.On (by rw[List.length_append];exact IM) mF EC V3 IN kI (hEE.mono hm) R1
      ·exact hw.elim
     ·rename_i z es JX hl;split at hw
      ·rename_i hz;rw[beq_iff]at hz;subst hz;obtain⟨OO,hK⟩:=hw;have mQ:=size OO;obtain⟨S,K0⟩:=H.ex;have hO:=K0.ct m _ hl;generalize hS:S m=Sm at hO;have uU:=hO.tk rfl hs;cases hO with
       |ia hb kI=>
        rcases uU with⟨_,_,uT⟩|⟨b,cap,h1,_⟩
        ·obtain⟨M1,k1⟩:=H.gone hl rfl;refine ly H (ns:=[m]) (y1:=.bB z xs []) (y2:=.bB z xs []) A oA hlen lU fin hp hq eP M1 k1 (fun _ h=>h) (fun n y ED bH=>?_) (uT.imp id fun⟨b,o',cs,q1,q2,q3,q4,q5⟩=>⟨b,o',cs,q1,q2,q4,q5⟩) (by simpa using mQ) (fun e c ρ F m hm=>by subst e;exact .ia hm oA) (fun new hE h1 h2 h3=>?_) ZD (by simpa using hK)
         ·have oX:n≠m:=by simpa using bH
          exact⟨⟨y,by rw[dM,if_neg oX];exact ED⟩,bN _ _ oX⟩
         ·exact M1.Im ⟨h1,h2,fun e he=>closed (Yh e he),by simp,da.lN h3⟩ oA
        ·rw[hb]at h1;cases h1
       |bB hb hg hf ht eG kI cY pK b6 iW hc=>
        rename_i Sq b f t0 gX bd cs;rcases uU with⟨_,h1,_⟩|⟨b',cap,h1,fK,rfl⟩
        ·rw[hb]at h1;cases h1
        ·rw[hb]at h1;cases h1;by_cases tJ:xs.length=0
         ·have LN:xs=[]:=List.length_eq_zero_iff.1 tJ;subst LN;obtain⟨M2,k2⟩:=H.rename hl hb
          have vh:cX E X.base h st xt (.slice (some ⟨b,0,some z⟩) es.length cap) xv=some (.slice (some ⟨b,0,some z⟩) es.length cap,h):=
           zc A rfl (by rintro l k e;cases e) (by rintro b oo sp l k e;cases e;rfl) hlen
          rw[List.append_nil]at hK;refine fv.dE H hp hq eP (fin _ _ vh) ⟨M2,k2,Nat.le_refl _,fun _ h=>h,fun _ _ _ hr=>hr⟩ ?_ (fun n y ED bH=>?_) hK
          ·refine .tk om rfl (fun b' z' len hx=>?_) (fun z hx=>?_)
           ·rw[aP]at hx;cases hx;exact⟨_,fK,rfl⟩
           ·rw[aP]at hx;cases hx
          ·obtain⟨q1,q2⟩:=ug H (y:=.bB z es JX) (l:=some (.arr b z es.length)) n y ED bH;exact⟨q1,q2,fun b' _=>⟨rfl,fun _ hr=>hr⟩⟩
         ·rcases lU with e|⟨new,mG,hE,AB,Nl,hV⟩
          ·subst e;simp at tJ
          ·refine IJ H K0 (y2:=.bB z (es++xs) JX) A hlen tJ fin hp hq eP hl hS hb hg hf ht eG kI cY fK mQ mG AB ((hE rfl).ie kI) (.inl rfl) (fun hm rV dn same hT IM mF EC V3 IN R1=>?_) hK;refine OR.VI (by rw[List.length_append];exact IM) mF EC V3 IN kI ⟨by simp[cY,AB,Nat.add_mul],fun e he=>?_,fun e he=>?_,fun p hp=>⟨by have:=(iW p hp).1;simp;omega,(iW p hp).2⟩,?_⟩
           ·rcases List.mem_append.1 he with h1|h1
            ·exact pK e h1
            ·exact Nl e h1
           ·rcases List.mem_append.1 he with h1|h1
            ·exact b6 e h1
            ·exact closed (Yh e h1)
           ·have:=(hc.bA H.wf same rV dn hm hT).join (da.lN (base:=X.base) (hV.rU hm));rw[List.append_nil]at this;rw[(II fun p hp=>(iW p hp).1).1,List.flatten_append];exact this
      ·exact hw.elim
     ·exact hw.elim
    ·rename_i m k;split at hw
     ·rename_i z es hl;split at hw
      ·rename_i hz;rw[beq_iff]at hz;subst hz;obtain⟨⟨UE,OO,LN⟩,hK⟩:=hw;have mQ:=size OO;have tJ:xs.length≠0:=fun e=>LN (List.length_eq_zero_iff.1 e);obtain⟨S,K0⟩:=H.ex;have hO:=K0.ct m _ hl;generalize hS:S m=Sm at hO;cases hs with
       |pv Hy lx ha h0=>
       cases hO with
       |nil hb kI=>
        have uT:=h0 _ hb;have RL:k=0:=by simpa using UE
        subst RL;obtain⟨M1,k1⟩:=H.gone hl rfl;refine ly H (ns:=[m]) (y1:=.arr z true xs) (y2:=.arr z true xs) A oA hlen lU fin hp hq eP M1 k1 (fun _ h=>h) (fun n y hl bH=>?_) (uT.imp id fun⟨b,o',cs,q1,q2,q3,q4,q5⟩=>⟨b,o',cs,q1,q2,q4,q5⟩) (by simpa using mQ) (fun e c ρ F m hm=>by subst e;exact .nil hm oA) (V2 M1) ZD (by simpa using hK);have oX:n≠m:=by simpa using bH
        exact⟨⟨y,by rw[dM,if_neg oX];exact hl⟩,bN _ _ oX⟩
       |arr hb hg hf ht eG kI cY pK iz hc hF=>
        rename_i b f t0 gX bd cs;obtain⟨cap,fK,rfl⟩:=ha _ _ _ hb;rcases lU with e|⟨new,mG,hE,AB,Nl,hV⟩
        ·exact absurd e LN
        ·have hkz:k*z≤cs.length:=by rw[cY];exact Nat.mul_le_mul_right _ UE
         have hEE:ER c ρ F h z (es.take k++xs) (cs.take (k*z)++new):=ER.append (ER.take ⟨cY,pK,iz,hc⟩ UE) (hE rfl);refine Kh H K0 (y2:=.arr z true (es.take k++xs)) A hlen tJ fin hp hq eP hl hS hb hg hf ht eG kI hkz (.inr rfl) fK mQ mG AB ((hE rfl).ie kI) (.inl rfl) (fun hm rV dn same hT IM mF EC V3 IN R1=>?_) hK;exact OR.On (by rw[List.length_append,List.length_take,Nat.min_eq_left UE];exact IM) mF EC V3 IN kI (hEE.mono hm) R1
      ·exact hw.elim
     ·exact hw.elim
    ·exact hw.elim
   ·exact hw.elim
  ·rename_i n bytes z0 zx xs q hn Hw BL fT;split at hw
   ·rename_i hc;simp only[Bool.and_eq_true,beq_iff,ba]at hc;obtain⟨⟨⟨⟨V1,oA⟩,rfl⟩,IK⟩,pq,acU⟩:=hc;have size:∀{k:Nat},k<1048576→(k+1)*(bytes+1)≤1099511627776:=fun {k} hk=>size_le hk IK;have A:DI E st xt elem zx bytes:=⟨L.desc _ _ wm,⟨_,L.desc _ _ Nn⟩,L.size _ _ hn,L.bytes _ _ Hw,_,(L.zero _ _ BL).1,V1⟩;obtain⟨hlen,ZE,Yh,lU⟩:=qm H fT (.inl rfl) (by simpa using pq) hx;obtain⟨o1,o2⟩:=ZE q (by simp);have tJ:xs.length≠0:=by omega
    have ZF:∀{iX:Gh} {F1:Nat→Prop} {o1:Ob},Mem X iX F1 o1 c h→∀new,([q]=[]→ER c iX F1 h zx xs new)→new.length=xs.length*zx→(∀e∈xs,e.length=zx)→dP c iX F1 h (cZ xs [q]).flatten new→Mem X (cH iX c (some (.arr h.size zx xs.length))) F1 ((c,.bB zx xs [q])::o1) (c+1) (h.push (.cells new h.size h.size 0))∧∀t v,VR c iX F1 h t v→VR (c+1) (cH iX c (some (.arr h.size zx xs.length))) F1 (h.push (.cells new h.size h.size 0)) t v:=
     fun M1 new _ h1 h2 h3=>M1.Im ⟨h1,h2,fun e he=>closed (Yh e he),ZE,da.lN h3⟩ oA
    have ZG:∀{new:List Value},dP c ρ F h (cZ xs [q]).flatten new→new.length=xs.length*zx→new.all ie=true:=by
     intro new hV _;refine dP.Zz hV fun t ht=>?_;obtain⟨e,h1,h2⟩:=List.mem_flatten.1 ht;rcases List.mem_or_eq_of_mem_set (show e∈xs.set q.1 q.2 from h1)with h3|rfl
     ·have:=Yh e h3 t h2;cases t<;>first|rfl |simp[fz]at this
     ·exact List.all_eq_true.1 acU t h2
    -- to an array that is there
    have main:∀{es:List (List TV)} {JX:List (Nat×List TV)} {Sq:Ft} {S:Nat→Ft} {b f t0 gX bd m cap:Nat} {cs:List Value} {y:TO},MO X ρ F o c h S→look o m=some y→S m=(f,true)::Sq→ρ m=some (.arr b zx es.length)→h.get b=some (.cells cs f t0 gX)→h.dU b=some (f,b,bd)→bd≤b→X.base≤f→cs.length=es.length*zx→es.length≤cap→sv= .slice (some ⟨b,0,some zx⟩) es.length cap→
     (∀e∈es,e.length=zx)→(∀e∈es,∀t∈e,nP t=true)→(∀p∈JX,p.1<es.length∧p.2.length=zx)→da c ρ F h X.base Sq (cZ es JX).flatten cs→es.length+xs.length<1048576→K (.tk c) ((c,.bB zx (es++xs) ((es.length+q.1,q.2)::JX))::fM o m) (c+1) (.dE [m])→fv E X ρ F o c af h p K:=by
     intro es JX Sq S b f t0 gX bd m cap cs y K0 hl hS hb hg hf ht eG cY fK uT pK b6 iW hc mQ hK;subst uT;rcases lU with e|⟨new,mG,_,AB,Nl,hV⟩
     ·subst e;simp at tJ
     ·refine IJ H K0 (y2:=.bB zx (es++xs) ((es.length+q.1,q.2)::JX)) A hlen tJ fin hp hq eP hl hS hb hg hf ht eG oA cY fK (size mQ) mG AB (ZG hV AB) (.inl rfl) (fun hm rV dn same hT IM mF EC V3 IN R1=>?_) hK;refine OR.VI (by rw[List.length_append];exact IM) mF EC V3 IN oA ⟨by simp[cY,AB,Nat.add_mul],fun e he=>?_,fun e he=>?_,fun r hr=>?_,?_⟩
      ·rcases List.mem_append.1 he with h1|h1
       ·exact pK e h1
       ·exact Nl e h1
      ·rcases List.mem_append.1 he with h1|h1
       ·exact b6 e h1
       ·exact closed (Yh e h1)
      ·rcases List.mem_cons.1 hr with rfl |hr
       ·exact⟨by simp;omega,o2⟩
       ·have:=iW r hr;exact⟨by simp;omega,this.2⟩
      ·have:=(hc.bA H.wf same rV dn hm hT).join (da.lN (base:=X.base) (hV.rU hm));rw[List.append_nil]at this;rw[Su fun p hp=>(iW p hp).1,List.flatten_append];exact this
    split at hw
    ·rename_i z;split at hw
     ·rename_i hz;simp only[Bool.or_eq_true,beq_iff]at hz;obtain⟨mQ,hK⟩:=hw;exact ly H A oA hlen lU fin hp hq eP H (fun _ _ h=>h) (fun _ h=>h) w0 (emp hz hs) (size mQ) (fun e=>by subst e;simp at tJ) (ZF H) ZD hK
     ·exact hw.elim
    ·rename_i m;have Ki:∀{y:TO},look o m=some y→A6 y=true→FJ y=0→Lv y=zx→(sv= .slice none 0 0∨∃b o cs,F b∧h.rd b=some cs∧0<Lv y∧o≤cs.length∧sv= .slice (some ⟨b,o,some (Lv y)⟩) 0 0)→xs.length<1048576→K (.tk c) ((c,.bB zx xs [q])::fM o m) (c+1) (.dE [m])→fv E X ρ F o c af h p K:=by
      intro y hl hy h0 hz uT mQ hK;obtain⟨M1,k1⟩:=H.gone hl hy;refine ly H (ns:=[m]) (y1:=.bB zx xs [q]) (y2:=.bB zx xs [q]) A oA hlen lU fin hp hq eP M1 k1 (fun _ h=>h) (fun n y ED bH=>?_) (uT.imp id fun⟨b,o',cs,q1,q2,q3,q4,q5⟩=>⟨b,o',cs,q1,q2,q4,by rw[←hz];exact q5⟩) (size mQ) (fun e=>by subst e;simp at tJ) (ZF M1) ZD hK;have oX:n≠m:=by simpa using bH
      exact⟨⟨y,by rw[dM,if_neg oX];exact ED⟩,bN _ _ oX⟩
     have OP:xJ 0 [q]=[q]:=by simp[xJ]
     split at hw
     ·rename_i z es hl;split at hw
      ·rename_i hz;rw[beq_iff]at hz;subst hz;obtain⟨mQ,hK⟩:=hw;obtain⟨S,K0⟩:=H.ex;have hO:=K0.ct m _ hl;generalize hS:S m=Sm at hO;have uU:=hO.tk rfl hs;cases hO with
       |nil hb kI=>
        rcases uU with⟨h0,_,uT⟩|⟨b,cap,h1,_⟩
        ·exact Ki hl rfl h0 rfl uT (by simpa using mQ) (by simpa[OP]using hK)
        ·rw[hb]at h1;cases h1
       |arr hb hg hf ht eG kI cY pK iz hc hF=>
        rcases uU with⟨_,h1,_⟩|⟨b',cap,h1,fK,uT⟩
        ·rw[hb]at h1;cases h1
        ·rw[hb]at h1;cases h1;exact main (JX:=[]) K0 hl hS hb hg hf ht eG cY fK uT pK (fun e he=>closed (iz e he)) (by simp) (da.lN (iL cY pK hc)) mQ hK
      ·exact hw.elim
     ·rename_i z es JX hl;split at hw
      ·rename_i hz;rw[beq_iff]at hz;subst hz;obtain⟨mQ,hK⟩:=hw;obtain⟨S,K0⟩:=H.ex;have hO:=K0.ct m _ hl;generalize hS:S m=Sm at hO;have uU:=hO.tk rfl hs;cases hO with
       |ia hb kI=>
        rcases uU with⟨h0,_,uT⟩|⟨b,cap,h1,_⟩
        ·exact Ki hl rfl h0 rfl uT (by simpa using mQ) (by simpa[OP]using hK)
        ·rw[hb]at h1;cases h1
       |bB hb hg hf ht eG kI cY pK b6 iW hc=>
        rcases uU with⟨_,h1,_⟩|⟨b',cap,h1,fK,uT⟩
        ·rw[hb]at h1;cases h1
        ·rw[hb]at h1;cases h1;exact main K0 hl hS hb hg hf ht eG cY fK uT pK b6 iW hc mQ hK
      ·exact hw.elim
     ·exact hw.elim
    ·exact hw.elim
   ·exact hw.elim
  ·exact hw.elim
 ·exact hw.elim
end
section
variable {T E:Env} {X:Cx} {ρ:Gh} {F:Nat→Prop} {o:Ob} {c:Nat} {af:AF} {f:Fr} {h:ab} {p:Oper} {K:OK}
theorem ny:∀{ids:List (Option Nat)} {o:Ob} {n:Nat},(∀k:Nat,ids[k]? ≠some (some n))→look (lf ids o) n=look o n
 |[],o,n,_=>rfl
 |none::l,o,n,h=>ny (ids:=l) fun k=>by simpa using h (k+1)
 |some m::l,o,n,h=>by
  simp only[lf];rw[ny (ids:=l) fun k=>by simpa using h (k+1),dM,if_neg];intro e;subst e;exact h 0 rfl
theorem vE:∀{ids:List (Option Nat)} {n:Nat},n∉oU ids→∀k:Nat,ids[k]? ≠some (some n)
 |[],n,_,k=>by simp
 |none::l,n,h,k=>by
  cases k with
  |zero=>simp
  |succ k=>simpa using vE (ids:=l) h k
 |some m::l,n,h,k=>by
  simp only[oU,List.mem_cons,not_or]at h;cases k with
  |zero=>simp;exact fun e=>h.1 e.symm
  |succ k=>simpa using vE (ids:=l) h.2 k
theorem wI:∀(sh:List Nat) (o:Ob) (n:Nat) (y:TO),look o n=some y→∃y',look (M.cO sh o) n=some y'∧jy y y'
 |[],o,n,y,h=>⟨y,h,jy.refl _⟩
 |m::sh,o,n,y,h=>by
  obtain⟨y1,h1,h2⟩:=qi o m n y h;obtain⟨y2,h3,h4⟩:=wI sh _ n y1 h1;exact⟨y2,h3,h2.trans h4⟩
theorem kz (H:Mem X ρ F o c h) (sh:List Nat):∃F',ql X ρ c h F o F' (M.cO sh o):=by
 obtain⟨F',h1,h2,h3⟩:=H.cO sh;exact⟨F',h1,h2,h3,wI sh o⟩
theorem wJ:∀{U:List Nat} {o:Ob} {n:Nat},n∉U→look (wE U o) n=look o n
 |[],o,n,_=>rfl
 |m::l,o,n,h=>by
  simp only[List.mem_cons,not_or]at h;simp only[wE];rw[wJ h.2,dM,if_neg h.1]
theorem OQ (NX:Iv E X) (H:Mem X ρ F o c h) {g:FuncId} {args:List TV} {cq:List Value} {st:Bool} (bR:st=true→yV E g) (hw:jE st (VC E) g args o c K) (ha:dP c ρ F h args cq) (hp:aZ E af p=none) (hq:b7 E af p=none) (eP:bw E af p=none)
 (he:dx E X.base af p h=some (.enter g cq,h)):fv E X ρ F o c af h p K:=by
 obtain⟨sh,ids,U,J0,o0,R,hvc,⟨jD,hO,hi⟩,hK⟩:=hw;simp only[Bool.and_eq_true]at hi;obtain⟨hi,hU⟩:=hi;obtain⟨F1,Sh⟩:=kz H sh;have H1:=Sh.mem;obtain⟨S,K1⟩:=H1.ex;obtain⟨S1,Ns,D⟩:=hO.told H1 K1 hi hU;obtain⟨hand,OS⟩:=H1.hand K1 D;have V4:=Fy (zf:=Ir o0) H1 _ _ _ jD (ha.rU Sh.bA);obtain⟨n0,v,h',ρ',F',r,o',c',iD,hR,MC,hr⟩:=hvc X.base _ F1 h S1 cq (NX.now H1) hand OS V4;obtain⟨MM,k1,k2,k3⟩:=H1.merge K1 hi D MC;have gB:h.size≤h'.size:=MC.pP.size;have Sv:Raw ρ o h (rL ids c ρ ρ') (Il (back ids c) o'++wE U (lf ids (cO sh o))) h' (oU ids++U):=fun n y hl bH=>by
  simp only[List.mem_append,not_or]at bH;have hn:=vE bH.1;have Hy:=H.lt hl;obtain⟨y1,q1,q2⟩:=Sh.wk n y hl;have Lp:=k3 n y1 q1 hn bH.2;refine⟨⟨y1,?_⟩,xO hn Hy,fun b hb=>?_⟩
  ·rw[ku];split
   ·rename_i y3 h3;obtain⟨k,y4,e1,_,_⟩:=vq (fun k k'=>yP hi) h3;exfalso;unfold back at e1;split at e1
    ·rename_i m hm;subst e1;exact hn k hm
    ·omega
   ·rw[wJ bH.2,ny hn];exact q1
  ·obtain⟨AT,hh⟩:=H1.DG K1 q1 hb;have Zv:¬nw S1 o0 (hd h b):=Lp _ hh;have hg:=MC.pP.bA b AT Zv;refine⟨hg,fun cs hr=>?_⟩;obtain⟨r,a1,a2,a3⟩:=rd_some hr;obtain⟨f1,t1,AA,rH⟩:=dV a3;obtain⟨cr,qQ⟩:=b9 a1;obtain⟨uY,p1,p2,yc⟩:=ef a1;rw[rH]at yc;cases yc;have wq:=MC.pP.bA r.1 (H.wf.lt qQ) (by
    have:hd h r.1=hd h b:=by rw[cu qQ,cu rH]
    show¬nw S1 o0 (hd h r.1);rw[this];exact Zv)
   exact eW (cG (hg.trans rH) (wq.trans qQ)) a2 (aT (hg.trans rH))
 refine⟨n0,⟨v,h',.dE h h'⟩,r.nr (back ids c),_,_,_,F',VE st o0 (oU ids++U),fun n hn=>?_,hK r o' c' hR,⟨MM,fun t x hx=>k1 t x (Sh.bA t x hx),gB,fun b hb=>MC.F0 b (Sh.FF b hb),fun b cs hb gA=>(MC.pP.dn b (Sh.FF b hb)).trans gA⟩,k2 _ _ hr,?_⟩
 ·unfold eF;rw[hp,hq,eP,he];simp only
  rw[Ov hn _ _ _ _ iD];rfl
 ·unfold VE;split
  ·rename_i hs;exact .pG Sv (bR rfl _ _ _ _ _ _ iD)
  ·split
   ·rename_i CU;rw[CU]at Sv;exact .pH Sv fun b hb=>MC.pP.bA b hb fun⟨k,y,q,_⟩=>by simp[look]at q
   ·exact .dE Sv
end
end Go.M
