/-
  Part 8 of the library that the proof leans on.
-/
import Derived.Test.YteoljjhhdgplnaaGreatDoorL7
namespace Go.M
open Go
section
variable {T E:Env} {X:Cx} {ρ:Gh} {F:Nat→Prop} {o:Ob} {c:Nat} {af:AF} {f:Fr} {h:ah} {p:Oper} {K:OK}
theorem fv.dI (_:Mem X ρ F o c h) {v:TV} {x:Value} {h':ah} {ρ':Gh} {F':Nat→Prop} {o':Ob} {c':Nat} {ns:List Nat} (hp:aO E af p=none) (hq:bP E af p=none) (ha:bt E af p=none)
 (he:dk E X.base af p h=some (.val x,h')) (hN:Nx X ρ F o c h ρ' F' o' c' h') (hv:VR c' ρ' F' h' v x) (hr:Raw ρ o h ρ' o' h' ns) (hK:K v o' c' (.dI ns)):fv E X ρ F o c af h p K:=by
 refine⟨0,⟨x,h',.dI h h'⟩,v,o',c',ρ',F',.dI ns,fun n _=>?_,hK,hN,hv,.dI hr⟩;unfold eM;rw[hp,hq,ha,he]
theorem vB (H:Mem X ρ F o c h) {F1:Nat→Prop} {o1:Ob} (Sh:qK X ρ c h F o F1 o1) {S:Nat→Ft} (K1:MO X ρ F1 o1 c h S) {m:Nat} {y y':TO} {h':ah} (hl:look o1 m=some y) {x:Nat} (hhm:x∈cM (S m))
 (same:∀z,z<h.size→hd h z≠x→h'.get z=h.get z):Raw ρ o h ρ (fu o1 m y') h' [m]:=by
 intro n yn hn bC;have pk:n≠m:=by simpa using bC
 obtain⟨y1,k1,k2⟩:=Sh.wk n yn hn;refine⟨⟨y1,by rw[eQ,if_neg pk];exact k1⟩,rfl,fun b hb=>?_⟩;obtain⟨q1,q2⟩:=Sh.mem.Fh K1 k1 hb;have hhb:hd h b≠x:=fun e=>by
  rw[e]at q2;exact pk (K1.ff n m y1 y _ k1 hl q2 hhm)
 exact⟨same b q1 hhb,fun cs hr=>j5 H.wf same hhb hr⟩
theorem HV (_:Mem X ρ F o c h) {F1:Nat→Prop} {o1:Ob} (S:qK X ρ c h F o F1 o1) {ρ':Gh} {F2:Nat→Prop} {o2:Ob} {c2:Nat} {h':ah} (M:Mem X ρ' F2 o2 c2 h') (hk:∀t x,VR c ρ F1 h t x→VR c2 ρ' F2 h' t x) (hF:∀b,F1 b→F2 b)
 (fq:h.size≤h'.size) (c7:∀b cs,F b→h.rd b=some cs→h'.rd b=some cs):Nx X ρ F o c h ρ' F2 o2 c2 h':=
 ⟨M,fun t x hx=>hk t x (S.bx t x hx),fq,fun b hb=>hF b (S.FF b hb),c7⟩
theorem MB {t:TV} {x:Value} (ho:BS t=true) (hv:VR c ρ F h t x):fU x=true:=by
 cases hv with
 |s hp=>cases x<;>simp[ay]at hp<;>rfl
 |tk hn sb=>cases x<;>simp[Oh]at sb;rfl
 |wp hn sb=>cases x<;>simp[ptV]at sb;rfl
 |j=>simp[BS]at ho
 |agg=>simp[BS]at ho
 |cB=>simp[BS]at ho
 |sv=>simp[BS]at ho
 |pv=>simp[BS]at ho
 |_=>rfl
theorem zh:∀{l:List TV} {m:List Value},l.all BS=true→ee c ρ F h l m→m.all fU=true
 |[],m,_,H=>by rw[H.bU];rfl
 |t::l,m,ho,H=>by
  simp only[List.all_cons,Bool.and_eq_true]at ho;obtain⟨v,m',rfl,h1,h2⟩:=H.aY;simp only[List.all_cons,Bool.and_eq_true];exact⟨MB ho.1 h1,zh ho.2 h2⟩
def RE (E:Env) (base:Nat) (t:TypeId) (a v:Value) (h:ah):Option (mj×ah):=(E.size t).bind fun n=>(jF a).bind fun p=>
      bL (Nat.beq v.cells.size n&&v.cells.toList.all fU)<|(h.rd p.1).bind fun cs=>(dz cs p.2 v.cells.toList).bind fun cs'=>(h.wr base p.1 cs').bind fun h'=>some (.val undef,h')
theorem HW {α:Type} {v1 v2 v3 v2' xs:List α} {p:Nat} (h:dz v2 p xs=some v2'):dz (v1++(v2++v3)) (v1.length+p) xs=some (v1++(v2'++v3)):=by
 obtain⟨s1,s2,s3⟩:=dL h;obtain⟨r,hr⟩:=mQ (n:=v1.length+p) (l:=v1++(v2++v3)) (xs:=xs) (by simp;omega);rw[hr]
 congr 1
 rw[kU hr,kU h];rw[List.take_length_add_append,List.drop_length_add_append,List.take_append_of_le_length om,List.drop_append_of_le_length om,List.drop_append_of_le_length (by rw[List.length_drop];omega)];simp[List.append_assoc]
theorem db.dz {base:Nat} {S:Ft} {l xs r:List TV} {m ys:List Value} {p:Nat} (H:db c ρ F h base S l m) (hs:M.dz l p xs=some r) (hx:ee c ρ F h xs ys):∃m' S',M.dz m p ys=some m'∧db c ρ F h base S' r m'∧S'.Sublist S:=by
 obtain⟨s1,s2,s3⟩:=dL hs;have hlen:=H.len;obtain⟨m',hm⟩:=mQ (n:=p) (l:=m) (xs:=ys) (by rw[←hx.1,←hlen];exact s1);obtain⟨S1,S2,S3,rfl,a1,a2,a3⟩:=H.part p xs.length;refine⟨m',S1++S3,hm,?_,(List.sublist_append_right S2 S3).append_left S1⟩;rw[kU hs,kU hm,←hx.1];exact a1.join ((db.lP (base:=base) hx).join a3)
theorem AJ {α:Type} {l:List α} {i:Nat} {e:α} (he:l[i]? =some e):l.set i e=l:=by
 refine List.ext_getElem? fun k=>?_;rw[List.getElem?_set];by_cases ek:i=k
 ·subst ek;rw[if_pos rfl,if_pos (List.getElem?_eq_some_iff.1 he).1,he]
 ·rw[if_neg ek]
theorem OC (L:cm T E) (H:Mem X ρ F o c h) {t:TypeId} {a v:TV} {av vv:Value} (hw:J7 T t a v o c K) (ha:VR c ρ F h a av) (hv:VR c ρ F h v vv) (hp:aO E af p=none) (hq:bP E af p=none) (dh:bt E af p=none)
 (he:dk E X.base af p h=RE E X.base t av vv h):fv E X ρ F o c af h p K:=by
 unfold J7 at hw;split at hw
 ·exact hw.elim
 ·rename_i n hn;split at hw
  ·exact hw.elim
  ·rename_i hc;simp only[Bool.and_eq_true,beq_iff]at hc;obtain⟨⟨MD,hlen⟩,ni⟩:=hc;have vy:=jO hv MD;have lL:=zh ni vy;have fq:vv.cells.size=n:=by have:=vy.1;simp only[Array.length_toList]at this;omega
   have go:∀b q cs cs' h',av= .pointer (some ⟨b,q,none⟩)→h.rd b=some cs→dz cs q vv.cells.toList=some cs'→h.wr X.base b cs'=some h'→dk E X.base af p h=some (.val undef,h'):=by
    rintro b q cs cs' h' rfl h1 h2 h3;rw[he];unfold RE;simp only[L.size _ _ hn,Option.bind_some,jF,fq,lL,h1,h2,h3,bL];simp
   split at hw
   ·rename_i m q;split at hw
    ·rename_i cs hl;split at hw
     ·rename_i wi ft;obtain⟨S,K0⟩:=H.ex;have hO:=K0.cC m _ hl;generalize hS:S m=Sm at hO;cases hO with
      |cells hb hg pU hc=>
       rename_i Sq b aS csv;cases ha with
       |ptr cA=>
        rw[hb]at cA;cases cA;have gW:=eu (bR hg hg) pU (az hg);obtain⟨aeF,S',h1,h2,h3⟩:=hc.dz ft vy;have YJ:(b,true)∈S m:=by rw[hS];exact List.mem_cons_self
        have tt:=K0.eG m _ b hl (eJ YJ);have pn:=K0.B7 m _ hl;rw[hS]at pn;obtain⟨n1,n2⟩:=List.nodup_cons.1 pn;have vt:((b,true)::S').Sublist ((b,true)::Sq):=h3.cons_cons _;have W:=E3 (cs':=aeF) H.wf hg (bR hg hg);obtain⟨t',th',lu⟩:=W.self;obtain⟨M,hk⟩:=H.set K0 (y':=.cells wi) (S0:=(b,true)::S') hl YJ (fun p hp=>by rw[hS];exact vt.subset hp) (show(cM _).Nodup from List.Sublist.nodup (vt.map Prod.fst) pn) W.size W.wf W.same W.cM fun hm c7=>by
         refine .cells hb (aS:=b) (cs':=aeF) ?_ (Nat.le_refl _) (h2.bx (T:=fun x=>x=b) H.wf W.same (fun _ h=>h) c7 hm fun x hx e=>?_)
         ·obtain⟨c0,bZ⟩:=bS W.dQ;simp only at bZ;rw[lu]at bZ;rw[lu,Option.some.injEq,eC.cells.injEq]at*
          obtain⟨_,_,e3,e4⟩:=bZ;exact⟨rfl,rfl,e3,e4⟩
         ·subst e;exact n1 ((h3.map Prod.fst).subset hx)
        refine fv.dI H hp hq dh (go _ _ _ _ _ rfl gW h1 (Ms hg (bR hg hg) tt.1 tt.1)) (HV H (.refl H) M hk (fun _ h=>h) (by rw[W.size];exact Nat.le_refl _) fun b' cs' cA mn=>j5 H.wf W.same (K0.apart m _ _ b' hl YJ cA) mn) (.j _)
         (vB H (.refl H) K0 hl (eJ YJ) W.same) hw
     ·exact hw.elim
    ·exact hw.elim
   ·rename_i m i q
    -- a row of which each cell may name an object
    have row:∀{y:TO} {b f t0 fy aS z:Nat} {es:List (List TV)} {e e1:List TV} {Sq:Ft} {cs:List Value} {S:Nat→Ft},MO X ρ F o c h S→look o m=some y→S m=(f,true)::Sq→ρ m=some (.arr b z es.length)→h.get b=some (.cells cs f t0 fy)→h.dQ b=some (f,b,aS)→aS≤b→X.base≤f→0<z→cs.length=es.length*z→
     (∀e∈es,e.length=z)→(∀e∈es,∀t∈e,nV t=true)→i<es.length→e.length=z→av= .pointer (some ⟨b,i*z+q,none⟩)→db c ρ F h X.base Sq (es.set i e).flatten cs→dz e q (aF v)=some e1→K .j (fu o m (.cF z es [(i,e1)])) c (.dI [m])→fv E X ρ F o c af h p K:=by
     intro y b f t0 fy aS z es e e1 Sq cs S K0 hl hS hb hg hf pU eF hz hlen nv cH hi Qp hav hc ft hw;obtain⟨S1,S2,S3,v1,v2,v3,rfl,rfl,a1,a2,a3⟩:=iI nv hi hc;obtain⟨v2',V2,h1,h2,h3⟩:=a2.dz ft vy;have e1l:v1.length=i*z:=by
      have h1:=a1.len;obtain⟨e0,he0⟩:∃e0,es[i]? =some e0:=⟨_,List.getElem?_eq_getElem hi⟩;have:=(fE nv he0).2;rw[Nat.add_mul]at this;rw[←h1,List.length_take];omega
     have aeG:dz (v1++(v2++v3)) (i*z+q) vv.cells.toList=some (v1++(v2'++v3)):=by rw[←e1l];exact HW h1
     have gW:=eu hf pU (az hg);have BT:(f,true)∈S m:=by rw[hS];exact List.mem_cons_self
     have tt:=K0.eG m _ f hl (eJ BT);have pn:=K0.B7 m _ hl;rw[hS]at pn;obtain⟨n1,n2⟩:=List.nodup_cons.1 pn;have YK:(S1++(V2++S3)).Sublist (S1++(S2++S3)):=(h3.append_right S3).append_left S1;have vt:((f,true)::(S1++(V2++S3))).Sublist ((f,true)::(S1++(S2++S3))):=YK.cons_cons _;have Kw:X.base≤b:=by have:=H.wf.le _ _ _ _ _ hg;omega
     have W:=E3 (cs':=v1++(v2'++v3)) H.wf hg hf;obtain⟨t',th',lu⟩:=W.self;have e1z:e1.length=z:=by rw[(dL ft).2.1];exact Qp
     have Mc:v2'.length=v2.length:=(dL h1).2.1;obtain⟨M,hk⟩:=H.set K0 (y':=.cF z es [(i,e1)]) (S0:=(f,true)::(S1++(V2++S3))) hl BT (fun p hp=>by rw[hS];exact vt.subset hp) (show(cM _).Nodup from List.Sublist.nodup (vt.map Prod.fst) pn) W.size W.wf W.same W.cM fun hm c7=>by
      refine .cF hb lu W.dQ (Nat.le_refl _) eF hz (by rw[←hlen];simp[Mc]) nv cH (fun p hp=>?_) ((ld nv hi a1 h2 a3).bx (T:=fun x=>x=f) H.wf W.same (fun _ h=>h) c7 hm fun x hx e=>?_)
      ·simp only[List.mem_singleton]at hp;subst hp;exact⟨hi,e1z⟩
      ·subst e;exact n1 ((YK.map Prod.fst).subset hx)
     refine fv.dI H hp hq dh (go _ _ _ _ _ hav gW aeG (Ms hg hf Kw eF)) (HV H (.refl H) M hk (fun _ h=>h) (by rw[W.size];exact Nat.le_refl _) fun b' cs' cA mn=>j5 H.wf W.same (K0.apart m _ _ b' hl BT cA) mn) (.j _)
      (vB H (.refl H) K0 hl (eJ BT) W.same) hw
    split at hw
    ·rename_i l y8 iG;split at hw
     ·rename_i z es hl;obtain⟨e,nv,hw⟩:=hw;split at hw
      ·rename_i e1 ft;obtain⟨F1,Sh,sv⟩:=sj (aF v) H;have H1:=Sh.mem;have JC:=sv l _ iG vy;obtain⟨f1,f2⟩:=zg iG;obtain⟨b,z1,l1,hb,rfl⟩:=wL H1 hl rfl (Sh.bx _ _ ha);obtain⟨S,K1⟩:=H1.ex;have hO:=K1.cC m _ hl;generalize hS:S m=Sm at hO;cases hO with
       |nil cA hz=>rw[hb]at cA;cases cA
       |arr cA hg hf pU eF hz c6 yU Ca nW hF=>
        rename_i f t0 fy aS cs;rw[hb]at cA;cases cA;have hE:ER c ρ F1 h z es cs:=⟨c6,yU,Ca,nW⟩;have gW:=eu hf pU (az hg);have hi:i<es.length:=(List.getElem?_eq_some_iff.1 nv).1;have Qp:=yU e (List.mem_of_getElem? nv);obtain⟨s1,s2,s3⟩:=dL ft;have Yu:vv.cells.toList.length=l.length:=JC.1.symm;have hle:(i+1)*z≤es.length*z:=Nat.mul_le_mul_right z hi;rw[Nat.add_mul]at hle;obtain⟨wi,Fi⟩:=mQ (n:=i*z+q) (l:=cs) (xs:=vv.cells.toList) (by rw[c6,Yu];omega);obtain⟨t1,t2,t3⟩:=dL Fi;have BT:(f,true)∈S m:=by rw[hS];exact List.mem_cons_self
        have tt:=K1.eG m _ f hl (eJ BT);have Kw:X.base≤b:=by
         have:=H1.wf.le _ _ _ _ _ hg;omega
        have W:=E3 (cs':=wi) H.wf hg hf;obtain⟨t',th',lu⟩:=W.self;have hE2:ER c ρ F1 h z (es.set i e1) wi:=by
         refine hE.setAt (i:=i) (l:=e1) (fun j=>?_) (by simp) hi (by rw[s2,Qp]) (fun t ht=>?_) t2 (fun j t v q1 q2=>?_) (fun k hk=>?_)
         ·rw[List.getElem?_set];by_cases ej:i=j
          ·subst ej;rw[if_pos rfl,if_pos rfl,if_pos hi]
          ·rw[if_neg ej,if_neg (fun e=>ej e.symm)]
         ·obtain⟨j,hj⟩:=List.getElem?_of_mem ht;rw[s3]at hj;split at hj
          ·exact f1 t (List.mem_of_getElem? hj)
          ·exact Ca e (List.mem_of_getElem? nv) t (List.mem_of_getElem? hj)
         ·rw[s3]at q1;rw[t3]at q2;split at q1
          ·rename_i hj;rw[if_pos ⟨om,om⟩]at q2;exact JC.2 (j - q) t v q1 (by rw[←q2];congr 1;omega)
          ·rename_i hj;rw[if_neg om]at q2;exact nW i j e t v nv q1 q2
         ·rw[t3,if_neg];rw[Nat.add_mul]at hk;omega
        obtain⟨M,hk⟩:=H1.set K1 (y':=.arr z true (es.set i e1)) (S0:=[(f,true)]) hl BT (fun p hp=>by simp only[List.mem_singleton]at hp;subst hp;exact BT) (by simp[cM]) W.size W.wf W.same W.cM fun hm _=>
         OR.Rl (by simp[hb]) lu W.dQ (Nat.le_refl _) eF hz (hE2.mono hm) (fun h=>by cases h)
        refine fv.dI H hp hq dh (go _ _ _ _ _ rfl gW Fi (Ms hg hf Kw eF)) (HV H Sh M hk (fun _ h=>h) (by rw[W.size];exact Nat.le_refl _) fun b' cs' cA mn=>j5 H.wf W.same (K1.apart m _ _ b' hl BT (Sh.FF _ cA)) mn) (.j _)
         (vB H Sh K1 hl (eJ BT) W.same) hw
      ·exact hw.elim
     ·exact hw.elim
    ·rename_i z es hl iG;obtain⟨e,nv,hw⟩:=hw;split at hw
     ·rename_i e1 ft;obtain⟨b,z1,l1,hb,hav⟩:=wL H hl rfl ha;obtain⟨S,K0⟩:=H.ex;have hO:=K0.cC m _ hl;generalize hS:S m=Sm at hO;cases hO with
      |nil cA hz=>rw[hb]at cA;cases cA
      |arr cA hg hf pU eF hz c6 yU Ca nW hF=>
       rw[hb]at cA;cases cA;have hi:i<es.length:=(List.getElem?_eq_some_iff.1 nv).1;refine row K0 hl hS hb hg hf pU eF hz c6 yU (fun e he t ht=>?_) hi (yU e (List.mem_of_getElem? nv)) hav (by rw[AJ nv];exact db.lP (iP c6 yU nW)) ft hw;have:=Ca e he t ht;unfold nV;split<;>first|rfl |exact this
     ·exact hw.elim
    ·rename_i z es op hl;obtain⟨b,z1,l1,hb,hav⟩:=wL H hl rfl ha;obtain⟨S,K0⟩:=H.ex;have hO:=K0.cC m _ hl;generalize hS:S m=Sm at hO;cases hO with
     |ib cA hz=>rw[hb]at cA;cases cA
     |cF cA hg hf pU eF hz c6 yU cH kr nW=>
      rw[hb]at cA;cases cA;unfold Ml at hw;split at hw
      ·obtain⟨e,nv,hw⟩:=hw;split at hw
       ·rename_i e1 ft;have hi:i<es.length:=(List.getElem?_eq_some_iff.1 nv).1;exact row K0 hl hS hb hg hf pU eF hz c6 yU cH hi (yU e (List.mem_of_getElem? nv)) hav (by rw[AJ nv];exact nW) ft hw
       ·exact hw.elim
      ·rename_i j ej;obtain⟨o1,o2⟩:=kr (j,ej) (by simp);by_cases eij:i=j
       ·subst eij;have hw:=hw.1 rfl;simp only at hw;split at hw
        ·rename_i e1 ft;exact row K0 hl hS hb hg hf pU eF hz c6 yU cH o1 o2 hav nW ft hw
        ·exact hw.elim
       ·obtain⟨_,_,hw⟩:=hw.2 eij;exact hw.elim
      ·obtain⟨_,_,hw⟩:=hw;exact hw.elim
    ·exact hw.elim
   ·exact hw.elim
def AK (E:Env) (base:Nat) (t:TypeId) (m k v:Value) (h:ah):Option (mj×ah):=(oS E base h t m k v).bind fun h'=>some (.val undef,h')
theorem ox (H:Mem X ρ F o c h) {F1:Nat→Prop} {o1:Ob} (Sh:qK X ρ c h F o F1 o1) {S:Nat→Ft} (K1:MO X ρ F1 o1 c h S) {n:Nat} {y y':TO} {b clock clock':Nat} {ev jD:List MapEntry} {Sq S':Ft} (hl:look o1 n=some y) (hS:S n=(b,true)::Sq) (hg:h.get b=some (.map ev clock))
 (vt:∀p∈S',p∈Sq) (Ap:(cM S').Nodup) {x:Value} {v:TV} (hp:aO E af p=none) (hq:bP E af p=none) (dh:bt E af p=none) (he:dk E X.base af p h=some (.val x,h.put b (.map jD clock'))) (hv:∀c ρ F h,VR c ρ F h v x)
 (xU:∀h',(∀t v,VR c ρ F1 h t v→VR c ρ F1 h' t v)→(∀b',b'<h.size→¬(hd h b'=b)→h'.get b'=h.get b')→(∀b cs,F1 b→h.rd b=some cs→h'.rd b=some cs)→h'.get b=some (.map jD clock')→(∀x∈cM S',x≠b)→OR c ρ F1 h' X.base n ((b,true)::S') y')
 (hK:K v (fu o1 n y') c (.dI [n])):fv E X ρ F o c af h p K:=by
 have H1:=Sh.mem;have YJ:(b,true)∈S n:=by rw[hS];exact List.mem_cons_self
 have pn:=K1.B7 n _ hl;rw[hS]at pn;obtain⟨n1,n2⟩:=List.nodup_cons.1 pn;have nk:∀x∈cM S',x≠b:=fun x hx e=>by
  subst e;obtain⟨q,hq,e⟩:=List.mem_map.1 hx;exact n1 (List.mem_map.2 ⟨q,vt q hq,e⟩)
 have hdb:hd h b=b:=by simp[hd,hg]
 have eW:∀x,(h.put b (.map jD clock')).get x=if x=b then some (.map jD clock')else h.get x:=fun x=>ah.br _ _ _ _
 have same:∀x,x<h.size→hd h x≠b→(h.put b (.map jD clock')).get x=h.get x:=fun x _ hx=>by
  rw[eW,if_neg];intro e;subst e;exact hx hdb
 have Z8:∀x,hd (h.put b (.map jD clock')) x=hd h x:=fun x=>by
  by_cases e:x=b
  ·subst e;rw[hdb];unfold hd;rw[eW,if_pos rfl]
  ·unfold hd;rw[eW,if_neg e]
 have L4:Wf (h.put b (.map jD clock')):=by
  have QF:=H.wf.lt hg;refine⟨fun x hx=>?_,fun x cs f t th hx=>?_⟩
  ·rw[ah.size_put]at hx;rw[eW,if_neg om];exact H.wf.high x hx
  ·rw[eW]at hx;split at hx
   ·cases hx
   ·exact H.wf.le _ _ _ _ _ hx
 obtain⟨M,hk⟩:=H1.set K1 (y':=y') (S0:=(b,true)::S') hl YJ (fun p hp=>by
  rw[hS];rcases List.mem_cons.1 hp with rfl |hp
  ·exact List.mem_cons_self
  ·exact List.mem_cons_of_mem _ (vt p hp)) (List.nodup_cons.2 ⟨fun hx=>nk b hx rfl,Ap⟩) (ah.size_put _ _ _) L4 same Z8 fun hm c7=>
  xU _ hm same c7 (by rw[eW,if_pos rfl]) nk
 exact fv.dI H hp hq dh he (HV H Sh M hk (fun _ h=>h) (by rw[ah.size_put];exact Nat.le_refl _) fun b' cs' cA mn=>j5 H.wf same (K1.apart n _ _ b' hl YJ (Sh.FF _ cA)) mn) (hv _ _ _ _)
  (vB H Sh K1 hl (eJ YJ) same) hK
theorem map_set (H:Mem X ρ F o c h) {F1:Nat→Prop} {o1:Ob} (Sh:qK X ρ c h F o F1 o1) {n kn:Nat} {es es1:List (Value×TV)} {b clock clock':Nat} {ev jD:List MapEntry} (hl:look o1 n=some (.map kn es)) (hb:ρ n=some (.dJ b)) (hg:h.get b=some (.map ev clock))
 (hE:wP c ρ F1 h kn es1 jD) (bz:xT jD clock') {x:Value} {v:TV} (hp:aO E af p=none) (hq:bP E af p=none) (dh:bt E af p=none) (he:dk E X.base af p h=some (.val x,h.put b (.map jD clock'))) (hv:∀c ρ F h,VR c ρ F h v x)
 (hK:K v (fu o1 n (.map kn es1)) c (.dI [n])):fv E X ρ F o c af h p K:=by
 obtain⟨S,K1⟩:=Sh.mem.ex;have hO:=K1.cC n _ hl;generalize hS:S n=Sm at hO;cases hO with
 |map cA lu vw nW QO=>
  rw[hb]at cA;cases cA;exact ox H Sh K1 (S':=[]) hl hS hg (by simp) (by simp[cM]) hp hq dh he hv (fun h' hm same c7 JG _=>.map hb JG hE.1 (fun i e e' q1 q2=>let⟨r1,r2,r3,r4⟩:=hE.2 i e e' q1 q2;⟨r1,r2,r3,hm _ _ r4⟩) bz) hK
end
section
variable {T E:Env} {X:Cx} {ρ:Gh} {F:Nat→Prop} {o:Ob} {c:Nat} {af:AF} {f:Fr} {h:ah} {p:Oper} {K:OK}
theorem AL {kd:TypeDesc} {k:Value} {n:Nat} (hk:kindOk kd k n=true):∀{es:List (Value×TV)} {cb:List MapEntry} (i:Nat),wP c ρ F h n es cb→
 (Instr.findNow kd k cb i=some none∧(∀v,dU es k v=es++[(k,v)])∧ug es k=es)∨
 ∃j x,j<es.length∧Instr.findNow kd k cb i=some (some (i+j,x))∧(∀v,dU es k v=es.set j (k,v))∧ug es k=es.eraseIdx j
 |[],cb,i,H=>by rw[H.bU];exact .inl ⟨rfl,fun _=>rfl,rfl⟩
 |e::es,cb,i,H=>by
  obtain⟨e',m,rfl,h1,h2,h3,h4,h5⟩:=H.aY;unfold Instr.findNow;rw[h1,kl hk h2.2];cases hq:tf k e.1 with
  |true=>exact .inr ⟨0,e'.val,by simp,rfl,fun v=>by simp[dU,hq],by simp[ug,hq]⟩
  |false=>
   simp only
   rcases AL hk (i+1) h5 with⟨q1,q2,q3⟩|⟨j,x,q0,q1,q2,q3⟩
   ·exact .inl ⟨q1,fun v=>by simp[dU,hq,q2],by simp[ug,hq,q3]⟩
   ·exact .inr ⟨j+1,x,by simp;omega,by rw[q1];congr 3;omega,fun v=>by simp[dU,hq,q2],by simp[ug,hq,q3]⟩
theorem wP.mono {kn c':Nat} {ρ':Gh} {F':Nat→Prop} {h':ah} {es:List (Value×TV)} {ev:List MapEntry} (H:wP c ρ F h kn es ev) (hm:∀t v,VR c ρ F h t v→VR c' ρ' F' h' t v):wP c' ρ' F' h' kn es ev:=
 ⟨H.1,fun i e e' q1 q2=>let⟨r1,r2,r3,r4⟩:=H.2 i e e' q1 q2;⟨r1,r2,r3,hm _ _ r4⟩⟩
theorem wP.zi {kn:Nat} {es:List (Value×TV)} {ev:List MapEntry} (H:wP c ρ F h kn es ev) {k:Value} {v:TV} {x:Value} (hk:0<kn∧bn k=kn) (hf:G7 v=true) (hv:VR c ρ F h v x) (b:Nat):wP c ρ F h kn (es++[(k,v)]) (ev++[{key:=k,val:=x,born:=b}]):=by
 refine⟨by simp[H.1],fun i e e' q1 q2=>?_⟩;by_cases hi:i<es.length
 ·rw[List.getElem?_append_left hi]at q1;rw[List.getElem?_append_left (by rw[←H.1];exact hi)]at q2;exact H.2 i e e' q1 q2
 ·rw[List.getElem?_append_right om]at q1;rw[List.getElem?_append_right (by rw[←H.1];omega),←H.1]at q2;have:i - es.length=0:=by
   rcases Nat.eq_zero_or_pos (i - es.length)with h0|h0
   ·exact h0
   ·rw[List.getElem?_eq_none (by simp;omega)]at q1;cases q1
  rw[this]at q1 q2;simp at q1 q2;subst q1;subst q2;exact⟨rfl,hk,hf,hv⟩
theorem wP.set {kn:Nat} {es:List (Value×TV)} {ev:List MapEntry} (H:wP c ρ F h kn es ev) {k:Value} {v:TV} {x:Value} (hk:0<kn∧bn k=kn) (hf:G7 v=true) (hv:VR c ρ F h v x) (j:Nat):wP c ρ F h kn (es.set j (k,v)) (ev.modify j fun e=>{e with key:=k,val:=x}):=by
 refine⟨by simp[H.1],fun i e e' q1 q2=>?_⟩;rw[List.getElem?_set]at q1;rw[List.getElem?_modify]at q2;by_cases e0:j=i
 ·subst e0;rw[if_pos rfl]at q1;split at q1
  ·cases q1;cases hq:ev[j]? with
   |none=>rw[hq]at q2;simp at q2
   |some a=>rw[hq]at q2;simp at q2;subst q2;exact⟨rfl,hk,hf,hv⟩
  ·cases q1
 ·rw[if_neg e0]at q1;cases hq:ev[i]? with
  |none=>rw[hq]at q2;simp at q2
  |some a=>
   rw[hq]at q2;simp[e0]at q2;subst q2;exact H.2 i e _ q1 hq
theorem wP.erase {kn:Nat} {es:List (Value×TV)} {ev:List MapEntry} (H:wP c ρ F h kn es ev) (j:Nat):wP c ρ F h kn (es.eraseIdx j) (ev.eraseIdx j):=by
 refine⟨by rw[List.length_eraseIdx,List.length_eraseIdx,H.1],fun i e e' q1 q2=>?_⟩;rw[List.getElem?_eraseIdx]at q1 q2;split at q1
 ·rename_i bw;rw[if_pos bw]at q2;exact H.2 _ _ _ q1 q2
 ·rename_i bw;rw[if_neg bw]at q2;exact H.2 _ _ _ q1 q2
theorem xT.zi {ev:List MapEntry} {clock:Nat} (H:xT ev clock) {k v:Value}:xT (ev++[{key:=k,val:=v,born:=clock}]) (clock+1):=by
 refine⟨fun x hx=>?_,?_⟩
 ·rcases List.mem_append.1 hx with hx|hx
  ·have:=H.1 x hx;omega
  ·simp at hx;subst hx;simp
 ·rw[List.map_append,List.nodup_append];refine⟨H.2,by simp,fun a ha b hb=>?_⟩;obtain⟨x,hx,rfl⟩:=List.mem_map.1 ha;simp at hb;subst hb;have:=H.1 x hx;omega
theorem xT.modify {ev:List MapEntry} {clock:Nat} (H:xT ev clock) (j:Nat) {f:MapEntry→MapEntry} (hf:∀e,(f e).born=e.born):xT (ev.modify j f) clock:=by
 have h1:(ev.modify j f).map (·.born)=ev.map (·.born):=by
  apply List.ext_getElem?;intro i;rw[List.getElem?_map,List.getElem?_map,List.getElem?_modify];cases ev[i]? with
  |none=>simp
  |some e=>by_cases h:j=i<;>simp[h,hf]
 refine⟨fun x hx=>?_,by rw[h1];exact H.2⟩;have:x.born∈(ev.modify j f).map (·.born):=List.mem_map.2 ⟨x,hx,rfl⟩;rw[h1]at this;obtain⟨y,hy,e⟩:=List.mem_map.1 this;rw[←e];exact H.1 y hy
theorem xT.erase {ev:List MapEntry} {clock:Nat} (H:xT ev clock) (j:Nat):xT (ev.eraseIdx j) clock:=
 ⟨fun x hx=>H.1 x (List.mem_of_mem_eraseIdx hx),((List.eraseIdx_sublist ev j).map _).nodup H.2⟩
theorem OD {v:TV} {x:Value} (hv:VR c ρ F h v x) (ho:okV v=true):dF v=gp x:=by
 cases hv with
 |j=>simp[okV,BS]at ho
 |cB=>simp[okV,BS]at ho
 |sv=>simp[okV,BS]at ho
 |pv=>simp[okV,BS]at ho
 |s hp=>cases x<;>first|rfl |simp[ay]at hp
 |tk _ h1=>cases x<;>first|rfl |simp[Oh]at h1
 |wp _ h1=>cases x<;>first|rfl |simp[ptV]at h1
 |_=>rfl
theorem AM {kd:TypeDesc} {k:Value} {n:Nat} {v w:TV} (hk:kindOk kd k n=true):∀{es:List (Value×TV)},dU (dU es k w) k v=dU es k v
 |[]=>by simp[dU,vA hk]
 |e::es=>by
  cases hq:tf k e.1 with
  |true=>simp[dU,hq,vA hk]
  |false=>simp[dU,hq,AM hk]
theorem jk.lr {base:Nat} {kd:TypeDesc} {k:Value} {n:Nat} (hk:kindOk kd k n=true) (qL:0<n∧bn k=n) {v:TV} {x:Value} (hv:db c ρ F h base [] (aF v) x.cells.toList) (ha:dF v=gp x) (b:Nat):∀{M:List (Value×TV)} {ev:List MapEntry} {S:Ft} (i:Nat),jk c ρ F h base n S M ev→
 (Instr.findNow kd k ev i=some none∧jk c ρ F h base n S (dU M k v) (ev++[{key:=k,val:=x,born:=b}]))∨
 ∃j y S',Instr.findNow kd k ev i=some (some (i+j,y))∧jk c ρ F h base n S' (dU M k v) (ev.modify j fun e=>{e with key:=k,val:=x})∧S'.Sublist S
 |[],ev,S,i,H=>by
  cases H;exact .inl ⟨rfl,jk.cons (e:=(k,v)) (S:=[]) (S':=[]) rfl qL ha hv .nil⟩
 |e::es,ev,S,i,H=>by
  cases H with
  |cons nw ji zN CE hl=>
   rename_i Sa Sb e' m;unfold Instr.findNow;rw[nw,kl hk ji.2];cases hq:tf k e.1 with
   |true=>
    refine .inr ⟨0,e'.val,Sb,rfl,?_,List.sublist_append_right _ _⟩;simp only[dU,hq];exact jk.cons (e:=(k,v)) (S:=[]) rfl qL ha hv hl
   |false=>
    simp only[dU,hq];rcases jk.lr hk qL hv ha b (i+1) hl with⟨q1,q2⟩|⟨j,y,S',q1,q2,q3⟩
    ·exact .inl ⟨q1,.cons nw ji zN CE q2⟩
    ·exact .inr ⟨j+1,y,Sa++S',by rw[q1];congr 3;omega,.cons nw ji zN CE q2,q3.append_left _⟩
theorem jk.del {base:Nat} {kd:TypeDesc} {k:Value} {n:Nat} (hk:kindOk kd k n=true):∀{M:List (Value×TV)} {ev:List MapEntry} {S:Ft} (i:Nat),jk c ρ F h base n S M ev→
 (Instr.findNow kd k ev i=some none∧ug M k=M)∨
 ∃j y S',Instr.findNow kd k ev i=some (some (i+j,y))∧jk c ρ F h base n S' (ug M k) (ev.eraseIdx j)∧S'.Sublist S
 |[],ev,S,i,H=>by cases H;exact .inl ⟨rfl,rfl⟩
 |e::es,ev,S,i,H=>by
  cases H with
  |cons nw ji zN CE hl=>
   rename_i Sa Sb e' m;unfold Instr.findNow;rw[nw,kl hk ji.2];cases hq:tf k e.1 with
   |true=>exact .inr ⟨0,e'.val,Sb,rfl,by simp only[ug,hq];exact hl,List.sublist_append_right _ _⟩
   |false=>
    simp only[ug,hq];rcases jk.del hk (i+1) hl with⟨q1,q2⟩|⟨j,y,S',q1,q2,q3⟩
    ·exact .inl ⟨q1,by rw[q2]⟩
    ·exact .inr ⟨j+1,y,Sa++S',by rw[q1];congr 3;omega,.cons nw ji zN CE q2,q3.append_left _⟩
theorem HX {k:Value} {e:Value×TV}:∀{es:List (Value×TV)},e∈ug es k→e∈es
 |[],h=>by simp[ug]at h
 |a::l,h=>by
  unfold ug at h;split at h
  ·exact List.mem_cons_of_mem _ h
  ·rcases List.mem_cons.1 h with rfl |h
   ·exact List.mem_cons_self
   ·exact List.mem_cons_of_mem _ (HX h)
theorem Cg (L:cm T E) (H:Mem X ρ F o c h) {t:TypeId} {m k v:TV} {mv kv vv:Value} (hw:uh T t m k v o c K) (hm:VR c ρ F h m mv) (hk:VR c ρ F h k kv) (hv:VR c ρ F h v vv) (hp:aO E af p=none) (hq:bP E af p=none) (dh:bt E af p=none)
 (he:dk E X.base af p h=AK E X.base t mv kv vv h):fv E X ρ F o c af h p K:=by
 unfold uh at hw;split at hw
 ·rename_i kt elem hd;split at hw
  ·rename_i kd Ce ji;have hkv:=hk.dV.1;subst hkv;split at hw
   ·rename_i n;have aah:∀{kn},kindOk kd kv kn=true→0<kn∧bn kv=kn:=fun {kn} kV=>by
     unfold kindOk at kV;simp only[Bool.and_eq_true,beq_iff,bc]at kV;exact⟨kV.1.1,kV.2⟩
    have run:∀{kn b clock:Nat} {ev jD:List MapEntry} {cl1:Nat},kindOk kd kv kn=true→mv= .map (some b)→X.base≤b→h.get b=some (.map ev clock)→
     (∃i,Instr.findNow kd kv ev 0=some i∧(match i with|some (i,_)=>jD=(ev.modify i fun e=>{e with key:=kv,val:=vv})∧cl1=clock|none=>jD=ev++[{key:=kv,val:=vv,born:=clock}]∧cl1=clock+1))→
     dk E X.base af p h=some (.val undef,h.put b (.map jD cl1)):=by
     rintro kn b clock ev jD cl1 kV rfl bG hg ⟨i,hi,h2⟩;obtain⟨B4,Cf⟩:=j7 kV;rw[he];unfold AK oS;rw[L.desc _ _ hd];simp only[Option.bind_some,L.desc _ _ ji];rw[aL.2 bG,B4,Cf,hg];simp only[Bool.and_self,bL,hi,Option.bind_some];cases i with
     |none=>obtain⟨rfl,rfl⟩:=h2;rfl
     |some i=>obtain⟨rfl,rfl⟩:=h2;rfl
    -- entries that name objects
    have named:∀{S:Nat→Ft} {y:TO} {kn b clock:Nat} {ev:List MapEntry} {es M:List (Value×TV)} {Sq:Ft},MO X ρ F o c h S→look o n=some y→S n=(b,true)::Sq→ρ n=some (.dJ b)→h.get b=some (.map ev clock)→xT ev clock→kindOk kd kv kn=true→okV v=true→mv= .map (some b)→
     (∀e∈es,∀t∈aF e.2,nV t=true)→jk c ρ F h X.base kn Sq M ev→dU M kv v=dU es kv v→K .j (fu o n (.fp kn es [(kv,v)])) c (.dI [n])→fv E X ρ F o c af h p K:=by
     intro S y kn b clock ev es M Sq K0 hl hS hb hg bz kV MD hmv cH hE hMe hw;have pn:=K0.B7 n _ hl;rw[hS]at pn;obtain⟨n1,n2⟩:=List.nodup_cons.1 pn;have bG:X.base≤b:=(K0.eG n _ b hl (by rw[hS];exact List.mem_cons_self)).1;rcases hE.lr kV (aah kV) (db.lP (jO hv MD)) (OD hv MD) clock 0 with⟨q1,q2⟩|⟨j,x,S',q1,q2,q3⟩
     ·rw[hMe]at q2;exact ox H (.refl H) K0 hl hS hg (fun _ h=>h) n2 hp hq dh (run kV hmv bG hg ⟨_,q1,rfl,rfl⟩) (fun _ _ _ _=>.j _) (fun h' hm same c7 JG nk=>.fp hb JG cH (q2.bx (T:=fun x=>x=b) H.wf same (fun _ h=>h) c7 hm nk) bz.zi) hw
     ·rw[hMe]at q2;exact ox H (.refl H) K0 hl hS hg (fun _ h=>q3.subset h) ((q3.map Prod.fst).nodup n2) hp hq dh (run (jD:=ev.modify j fun e=>{e with key:=kv,val:=vv}) (cl1:=clock) kV hmv bG hg ⟨_,q1,by simp,rfl⟩) (fun _ _ _ _=>.j _) (fun h' hm same c7 JG nk=>.fp hb JG cH (q2.bx (T:=fun x=>x=b) H.wf same (fun _ h=>h) c7 hm nk) (bz.modify j fun _=>rfl)) hw
    split at hw
    ·rename_i kn es v' hl v8;split at hw
     ·rename_i kV;have MD:okV v=true:=by
       cases v<;>simp[Rd,c7]at v8<;>rfl
      obtain⟨F1,Sh,sv⟩:=V4 H v MD;obtain⟨zc,iG⟩:=sv v' vv v8 hv;obtain⟨S,K0⟩:=H.ex;have hO:=K0.cC n _ hl;have Vk:=fun x hx=>K0.eG n _ x hl hx;generalize S n=Sm at hO Vk;cases hO with
      |map hb hg hlen hc bz=>
       rename_i b clock ev;have hE:wP c ρ F1 h kn es ev:=wP.mono ⟨hlen,hc⟩ Sh.bx;cases hm with
       |mp cA=>
        rw[hb]at cA;cases cA;obtain⟨y1,k1,k2⟩:=Sh.wk n _ hl;have:y1= .map kn es:=by cases y1<;>simp[jC]at k2;obtain⟨rfl,rfl⟩:=k2;rfl
        subst this;have bG:X.base≤b:=(Vk b List.mem_cons_self).1;rcases AL kV 0 hE with⟨q1,q2,q3⟩|⟨j,x,q0,q1,q2,q3⟩
        ·refine map_set H Sh k1 hb hg (hE.zi (aah kV) iG zc clock) bz.zi hp hq dh (run kV rfl bG hg ⟨_,q1,rfl,rfl⟩) (fun _ _ _ _=>.j _) ?_;rw[q2]at hw;exact hw
        ·refine map_set H Sh k1 hb hg (hE.set (aah kV) iG zc j) (bz.modify j fun _=>rfl) hp hq dh (run kV rfl bG hg ⟨_,q1,by simp,rfl⟩) (fun _ _ _ _=>.j _) ?_;rw[q2]at hw;exact hw
     ·exact hw.elim
    ·rename_i kn es hl v8;split at hw
     ·rename_i YL;simp only[Bool.and_eq_true]at YL;obtain⟨kV,MD⟩:=YL;obtain⟨S,K0⟩:=H.ex;have hO:=K0.cC n _ hl;generalize hS:S n=Sm at hO;cases hO with
      |map hb hg hlen hc bz=>
       cases hm with
       |mp cA=>
        rw[hb]at cA;cases cA;have vy:=CR.aaa (base:=X.base) hlen hc;exact named K0 hl hS hb hg bz kV MD rfl (vy.aeg _ _ _ rfl) (jk.uk vy _ _ _ rfl) rfl hw
     ·exact hw.elim
    ·rename_i kn es hl;split at hw
     ·rename_i YL;simp only[Bool.and_eq_true]at YL;obtain⟨kV,MD⟩:=YL;obtain⟨S,K0⟩:=H.ex;have hO:=K0.cC n _ hl;generalize hS:S n=Sm at hO;cases hO with
      |fp hb hg cH hc bz=>
       cases hm with
       |mp cA=>
        rw[hb]at cA;cases cA;exact named K0 hl hS hb hg bz kV MD rfl cH hc rfl hw
     ·exact hw.elim
    ·rename_i kn es k' w hl;split at hw
     ·rename_i YL;simp only[Bool.and_eq_true]at YL;obtain⟨kV,MD⟩:=YL;obtain⟨rfl,hw⟩:=hw;obtain⟨S,K0⟩:=H.ex;have hO:=K0.cC n _ hl;generalize hS:S n=Sm at hO;cases hO with
      |fp hb hg cH hc bz=>
       cases hm with
       |mp cA=>
        rw[hb]at cA;cases cA;exact named K0 hl hS hb hg bz kV MD rfl cH hc (AM kV) hw
     ·exact hw.elim
    ·exact hw.elim
   ·exact hw.elim
  ·exact hw.elim
 ·exact hw.elim
theorem Kx (L:cm T E) (H:Mem X ρ F o c h) {t:TypeId} {m k:TV} {mv kv:Value} (hw:EN T t m k o c K) (hm:VR c ρ F h m mv) (hk:VR c ρ F h k kv) (hp:aO E af p=none) (hq:bP E af p=none) (dh:bt E af p=none)
 (he:dk E X.base af p h=(uR E X.base h t mv kv).bind fun r=>some (.val r.1,r.2)):fv E X ρ F o c af h p K:=by
 have V6:∀(c:Nat) (ρ:Gh) (F:Nat→Prop) (h:ah),VR c ρ F h (.cB []) (.tuple #[]):=fun _ _ _ _=>.jj .nil;unfold EN at hw;split at hw
 ·rename_i kt elem hd;split at hw
  ·rename_i kd Ce n ji;have hkv:=hk.dV.1;subst hkv;have run:∀{kn b clock:Nat} {ev jD:List MapEntry},kindOk kd kv kn=true→mv= .map (some b)→X.base≤b→h.get b=some (.map ev clock)→(∃i,Instr.findNow kd kv ev 0=some i∧jD=(match i with|some (i,_)=>ev.eraseIdx i|none=>ev))→dk E X.base af p h=some (.val (.tuple #[]),h.put b (.map jD clock)):=by
    rintro kn b clock ev jD kV rfl bG hg ⟨i,hi,rfl⟩;obtain⟨B4,Cf⟩:=j7 kV;rw[he];unfold uR;rw[L.desc _ _ hd];simp only[Option.bind_some,L.desc _ _ ji];rw[aL.2 bG,B4,Cf,hg];simp only[Bool.and_self,bL,hi,Option.bind_some];cases i<;>rfl
   obtain⟨S,K0⟩:=H.ex;split at hw
   ·rename_i kn es hl;split at hw
    ·rename_i kV;have hO:=K0.cC n _ hl;have Vk:=fun x hx=>K0.eG n _ x hl hx;generalize S n=Sm at hO Vk;cases hO with
     |map hb hg hlen hc bz=>
      rename_i b clock ev;have hE:wP c ρ F h kn es ev:=⟨hlen,hc⟩;cases hm with
      |mp cA=>
       rw[hb]at cA;cases cA;have bG:X.base≤b:=(Vk b List.mem_cons_self).1;rcases AL kV 0 hE with⟨q1,q2,q3⟩|⟨j,x,q0,q1,q2,q3⟩
       ·refine map_set H (.refl H) hl hb hg hE bz hp hq dh (run (jD:=ev) kV rfl bG hg ⟨_,q1,rfl⟩) V6 ?_;rw[q3]at hw;exact hw
       ·refine map_set H (.refl H) hl hb hg (hE.erase j) (bz.erase j) hp hq dh (run (jD:=ev.eraseIdx j) kV rfl bG hg ⟨_,q1,by simp⟩) V6 ?_;rw[q3]at hw;exact hw
    ·exact hw.elim
   ·rename_i kn es hl;split at hw
    ·rename_i kV;have hO:=K0.cC n _ hl;have Vk:=fun x hx=>K0.eG n _ x hl hx;have pn:=K0.B7 n _ hl;generalize hS:S n=Sm at hO Vk pn;cases hO with
     |fp hb hg cH hc bz=>
      rename_i Sq b clock ev;cases hm with
      |mp cA=>
       rw[hb]at cA;cases cA;have bG:X.base≤b:=(Vk b List.mem_cons_self).1;obtain⟨n1,n2⟩:=List.nodup_cons.1 pn;have hE:jk c ρ F h X.base kn Sq es ev:=hc;rcases hE.del kV 0 with⟨q1,q2⟩|⟨j,x,S',q1,q2,q3⟩
       ·rw[q2]at hw;exact ox H (.refl H) K0 hl hS hg (fun _ h=>h) n2 hp hq dh (run (jD:=ev) kV rfl bG hg ⟨_,q1,rfl⟩) V6 (fun h' hm same c7 JG nk=>.fp hb JG cH (hE.bx (T:=fun x=>x=b) H.wf same (fun _ h=>h) c7 hm nk) bz) hw
       ·exact ox H (.refl H) K0 hl hS hg (fun _ h=>q3.subset h) ((q3.map Prod.fst).nodup n2) hp hq dh (run (jD:=ev.eraseIdx j) kV rfl bG hg ⟨_,q1,by simp⟩) V6 (fun h' hm same c7 JG nk=>.fp hb JG (fun e he=>cH e (HX he)) (q2.bx (T:=fun x=>x=b) H.wf same (fun _ h=>h) c7 hm nk) (bz.erase j)) hw
    ·exact hw.elim
   ·exact hw.elim
  ·exact hw.elim
 ·exact hw.elim
theorem C8 (H:Mem X ρ F o c h) {t:TypeId} {n kn:Nat} {y:TO} {mv:Value} (hl:look o n=some y) (hy:(∃es,y= .map kn es)∨∃es op,y= .fp kn es op) (hw:K (.cB []) (fu o n (.map kn [])) c (.dI [n])) (hm:VR c ρ F h (.mp n) mv) (hp:aO E af p=none) (hq:bP E af p=none) (dh:bt E af p=none)
 (hd:(E.desc t).isSome=true) (he:dk E X.base af p h=((E.desc t).bind fun _=>tN E X.base h t mv).bind fun r=>some (.val r.1,r.2)):fv E X ρ F o c af h p K:=by
 obtain⟨S,K0⟩:=H.ex;have hO:=K0.cC n _ hl;have Vk:=fun x hx=>K0.eG n _ x hl hx;obtain⟨d,hd⟩:=Option.isSome_iff_exists.1 hd;have main:∀{b clock:Nat} {ev:List MapEntry} {Sq:Ft},S n=(b,true)::Sq→ρ n=some (.dJ b)→h.get b=some (.map ev clock)→fv E X ρ F o c af h p K:=by
  intro b clock ev Sq hS hb hg;cases hm with
  |mp cA=>
   rw[hb]at cA;cases cA;have bG:X.base≤b:=(Vk b (by rw[hS];exact List.mem_cons_self)).1;refine ox H (.refl H) K0 (S':=[]) (jD:=[]) (clock':=clock) hl hS hg (by simp) (by simp[cM]) hp hq dh ?_ (fun _ _ _ _=>.jj .nil) (fun h' hm same c7 JG nk=>.map hb JG rfl (fun i e e' q=>by simp at q) ⟨by simp,by simp⟩) hw;rw[he,hd];unfold tN;simp only[Option.bind_some];rw[aL.2 bG,hg];rfl
 generalize hS:S n=Sm at hO;rcases hy with⟨es,rfl⟩|⟨es,op,rfl⟩
 ·cases hO with
  |map hb hg hlen hc bz=>exact main hS hb hg
 ·cases hO with
  |fp hb hg cH hc bz=>exact main hS hb hg
theorem ER.take {z:Nat} {es:List (List TV)} {cs:List Value} (A:ER c ρ F h z es cs) {i:Nat} (hi:i≤es.length):ER c ρ F h z (es.take i) (cs.take (i*z)):=by
 have hle:i*z≤es.length*z:=Nat.mul_le_mul_right z hi;refine⟨by rw[List.length_take,List.length_take,A.len,Nat.min_eq_left hi,Nat.min_eq_left hle],fun e he=>A.each e (List.mem_of_mem_take he),fun e he=>A.fz e (List.mem_of_mem_take he),fun a b e t v q1 q2 q3=>?_⟩;rw[List.getElem?_take]at q1 q3;split at q1
 ·split at q3
  ·exact A.cell a b e t v q1 q2 q3
  ·cases q3
 ·cases q1
theorem Ky (L:cm T E) (H:Mem X ρ F o c h) {t elem:TypeId} {m i z:Nat} {zv xv:Value} {zs:List TV} {es:List (List TV)} (hd:T.desc t=some (.slice elem)) (hz:T.zero elem=some zv) (hl:look o m=some (.arr z true es)) (jZ:np zv=some zs)
 (hc:(zs.all fz&&Nat.beq zs.length z&&zs.all BS)=true) (hw:(es.length≤i→K (.cB []) o c (.dI [m]))∧(i<es.length→K (.cB []) (fu o m (.arr z true (es.take i++List.replicate (es.length - i) zs))) c (.dI [m])))
 (hx:VR c ρ F h (.sv m i) xv) (hp:aO E af p=none) (hq:bP E af p=none) (dh:bt E af p=none)
 (he:dk E X.base af p h=((E.desc t).bind fun _=>tN E X.base h t xv).bind fun r=>some (.val r.1,r.2)):fv E X ρ F o c af h p K:=by
 simp only[Bool.and_eq_true,beq_iff]at hc;obtain⟨⟨iG,On⟩,k9⟩:=hc;obtain⟨ku,pR⟩:=L.zero _ _ hz;have tV:ee c ρ F h zs zv.cells.toList:=gN pR jZ;have nop:∀a cap,xv= .slice a 0 cap→(a=none∨∃b q z1,a=some ⟨b,q,some z1⟩)→es.length≤i→fv E X ρ F o c af h p K:=by
  rintro a cap rfl ha hle;refine fv.dI H (v:=.cB []) (x:=.tuple #[]) hp hq dh ?_ (.refl H) (.jj .nil) (Raw.refl [m]) (hw.1 hle);rw[he,L.desc _ _ hd];rcases ha with rfl |⟨b,q,z1,rfl⟩<;>rfl
 obtain⟨S,K0⟩:=H.ex;have hO:=K0.cC m _ hl;generalize hS:S m=Sm at hO;cases hx with
 |sv hn h1 ha h0=>
  cases hO with
  |nil hb Gy=>
   rcases h0 _ hb with rfl |⟨b,o',z',cap,rfl⟩
   ·exact nop _ _ rfl (.inl rfl) (Nat.zero_le _)
   ·exact nop _ _ rfl (.inr ⟨_,_,_,rfl⟩) (Nat.zero_le _)
  |arr hb hg hf pU eF Gy c6 yU Ca nW hF=>
   rename_i b f t0 fy aS cs;obtain⟨q,cap,rfl,hq'⟩:=ha _ _ _ hb;by_cases hi:i<es.length
   ·obtain rfl:=hq' hi;have hE:ER c ρ F h z es cs:=⟨c6,yU,Ca,nW⟩;have gW:=eu hf pU (az hg);have hR:=ER.replicate tV On iG (es.length - i);have hRl:=hR.len;rw[List.length_replicate]at hRl;have hiz:i*z+(es.length - i)*z=es.length*z:=by rw[←Nat.add_mul];congr 1;omega
    obtain⟨wi,Fi⟩:=mQ (n:=i*z) (l:=cs) (xs:=aW zv.cells.toList (es.length - i)) (by rw[c6,hRl];omega);have aiJ:wi=cs.take (i*z)++aW zv.cells.toList (es.length - i):=by
     rw[kU Fi,List.drop_drop,List.drop_eq_nil_of_le (by rw[c6,hRl];omega),List.append_nil]
    have hE2:ER c ρ F h z (es.take i++List.replicate (es.length - i) zs) wi:=by rw[aiJ];exact(hE.take (Nat.le_of_lt hi)).append hR
    have BT:(f,true)∈S m:=by rw[hS];exact List.mem_cons_self
    have tt:=K0.eG m _ f hl (eJ BT);have Kw:X.base≤b:=by have:=H.wf.le _ _ _ _ _ hg;omega
    have W:=E3 (cs':=wi) H.wf hg hf;obtain⟨t',th',lu⟩:=W.self;have L8:(es.take i++List.replicate (es.length - i) zs).length=es.length:=by simp;omega
    obtain⟨M,hk⟩:=H.set K0 (y':=.arr z true (es.take i++List.replicate (es.length - i) zs)) (S0:=[(f,true)]) hl BT (fun p hp=>by simp only[List.mem_singleton]at hp;subst hp;exact BT) (by simp[cM]) W.size W.wf W.same W.cM fun hm _=>
     OR.Rl (by rw[L8];exact hb) lu W.dQ (Nat.le_refl _) eF Gy (hE2.mono hm) (fun h=>by cases h)
    refine fv.dI H (v:=.cB []) (x:=.tuple #[]) hp hq dh ?_ (HV H (.refl H) M hk (fun _ h=>h) (by rw[W.size];exact Nat.le_refl _) fun b' cs' cA mn=>j5 H.wf W.same (K0.apart m _ _ b' hl BT cA) mn) (.jj .nil)
     (vB H (.refl H) K0 hl (eJ BT) W.same) (hw.2 hi)
    rw[he,L.desc _ _ hd];unfold tN;simp only[Option.bind_some];have ta:Nat.beq (es.length - i) 0=false:=by
     cases hbq:Nat.beq (es.length - i) 0 with
     |false=>rfl
     |true=>have:=beq_iff.1 hbq;omega
    rw[ta];simp only[cond_false,L.desc _ _ hd,Option.bind_some,ku,zh k9 tV,bL,gW,Fi,Ms hg hf Kw eF]
   ·exact nop _ _ (by rw[show es.length - i=0 by omega]) (.inr ⟨_,_,_,rfl⟩) om
end
section
variable {T E:Env} {X:Cx} {ρ:Gh} {F:Nat→Prop} {o:Ob} {c:Nat} {af:AF} {f:Fr} {h:ah} {p:Oper} {K:OK}
theorem size_le {k bytes:Nat} (hk:k<1048576) (hb:bytes<1048576):(k+1)*(bytes+1)≤1099511627776:=by
 have h1:(k+1)*(bytes+1)≤1048576*1048576:=Nat.mul_le_mul hk hb;exact h1
theorem Mem.V7 (H:Mem X ρ F o c h) {z:Nat} {y:TO} (xU:∀(c:Nat) (ρ:Gh) (F:Nat→Prop) (n:Nat),ρ n=some (.nil z)→OR c ρ F h X.base n [] y):Mem X (cP ρ c (some (.nil z))) F ((c,y)::o) (c+1) h∧∀t v,VR c ρ F h t v→VR (c+1) (cP ρ c (some (.nil z))) F h t v:=by
 obtain⟨S,K⟩:=H.ex
 refine H.change K (fun _=>False) c y [] (Nat.le_refl _) H.wf (fun _ hf=>hf.elim) (fun _ _ _=>rfl) (fun _ _ _ hr=>hr) (fun _ _=>rfl) (fun _ hb=>hb) (fun _ hb hn=>absurd hb hn) om (H.Hi _) (H.Hj _) (H.Hk _)
  (fun m y' bC hl=>?_) (fun y' hl=>?_) (xU _ _ _ _ (aR _ _ _)) (by simp[cM]) (by simp[cM]) (by simp)
 ·rw[aQ,if_neg (fun e=>bC e.symm)]at hl;exact⟨hl,bA _ _ bC,fun _ _ hf=>hf.elim⟩
 ·rw[aQ,if_pos rfl,Option.some.injEq]at hl;exact hl.symm
theorem Mem.YM (H:Mem X ρ F o c h) {S:Nat→Ft} (K:MO X ρ F o c h S) {m z l b0:Nat} {y y':TO} {S0:Ft} {h':ah} (hl:look o m=some y) (hb:ρ m=some (.arr b0 z l)) (fq:h.size≤h'.size) (L4:Wf h') (same:∀b,b<h.size→h'.get b=h.get b)
 (c7:∀b cs,F b→h.rd b=some cs→h'.rd b=some cs) (vt:∀p∈S0,p∈S m∨p.1=h.size) (Ap:(cM S0).Nodup) (bw:∀x∈cM S0,x<h'.size) (fl:Bool) (uY:fl=true→(h'.rd h.size).isSome=true∧hd h' h.size=h.size∧∀x,(x,true)∈S0→h.size≠x) {q:Loc} (_:∀b,q≠ .dJ b)
 (xU:(∀t v,VR c ρ F h t v→VR (c+1) (cP (cP ρ m none) c (some q)) (fun x=>F x∨(fl=true∧x=h.size)) h' t v)→OR (c+1) (cP (cP ρ m none) c (some q)) (fun x=>F x∨(fl=true∧x=h.size)) h' X.base c S0 y'):
 Mem X (cP (cP ρ m none) c (some q)) (fun x=>F x∨(fl=true∧x=h.size)) ((c,y')::fY o m) (c+1) h'∧∀t v,VR c ρ F h t v→VR (c+1) (cP (cP ρ m none) c (some q)) (fun x=>F x∨(fl=true∧x=h.size)) h' t v:=by
 have hm:=H.lt hl;have fN:∀n,n≠m→n≠c→cP (cP ρ m none) c (some q) n=ρ n:=fun n h1 h2=>by rw[bA _ _ h2,bA _ _ h1]
 have hA:∀n l',n<c→cP (cP ρ m none) c (some q) n=some l'→ρ n=some l':=fun n l' hn h1=>by
  by_cases e:n=m
  ·subst e;rw[bA _ _ om,aR]at h1;cases h1
  ·rwa [fN n e om]at h1
 have hB:∀n b',ρ n=some (.dJ b')→cP (cP ρ m none) c (some q) n=some (.dJ b'):=fun n b' hn=>by
  have:=H.names _ _ hn;by_cases e:n=m
  ·subst e;rw[hb]at hn;cases hn
  ·rwa [fN n e om]
 have Hl:∀t v,VR c ρ F h t v→VR (c+1) (cP (cP ρ m none) c (some q)) (fun x=>F x∨(fl=true∧x=h.size)) h' t v:=fun t v=>VR.mono om hA hB (fun _ hb=>.inl hb) c7;have xV:∀n y1,n≠c→look ((c,y')::fY o m) n=some y1→n≠m∧look o n=some y1:=fun n y bC hy=>by
  rw[aQ,if_neg (fun e=>bC e.symm),dP]at hy;by_cases e:n=m
  ·rw[if_pos e]at hy;cases hy
  ·rw[if_neg e]at hy;exact⟨e,hy⟩
 have Gv:∀x∈cM S0,x∈cM (S m)∨x=h.size:=fun x hx=>by
  obtain⟨p,hp,rfl⟩:=List.mem_map.1 hx;rcases vt p hp with h1|e
  ·exact .inl (List.mem_map.2 ⟨p,h1,rfl⟩)
  ·exact .inr e
 refine H.change K (fun _=>False) c y' S0 fq L4 (fun _ hf=>hf.elim) (fun b hb _=>same b hb) c7 (fun b hb=>by unfold hd;rw[same b hb]) (fun _ hb=>.inl hb) (fun b hb hn=>?_) om hA hB (fun n l' hn=>?_)
  (fun n y' bC hy=>?_) (fun y' hy=>?_) (xU Hl) Ap (fun x hx=>?_) fun x b hx hb=>?_
 ·rcases hb with hb|⟨hf,rfl⟩
  ·exact absurd hb hn
  ·obtain⟨g1,g2,g3⟩:=uY hf;refine⟨g1,fun n y1 x bC hy hx e=>?_,fun x hx=>by rw[g2];exact g3 x hx,.inr (by rw[g2];exact H.jb.size)⟩;rw[g2]at e;subst e;have:=(K.eG n y1 _ (xV n y1 bC hy).2 (eJ hx)).2.1;omega
 ·by_cases e:n=c
  ·omega
  ·by_cases e2:n=m
   ·omega
   ·rw[fN n e2 e]at hn;have:=H.names _ _ hn;omega
 ·obtain⟨h1,h2⟩:=xV n y' bC hy;exact⟨h2,fN n h1 bC,fun _ _ hf=>hf.elim⟩
 ·rw[aQ,if_pos rfl,Option.some.injEq]at hy;exact hy.symm
 ·rcases Gv x hx with h1|rfl
  ·obtain⟨q1,q2,q3⟩:=K.eG m y x hl h1;refine⟨q1,bw x hx,q3,fun n y1 bC hy hh=>?_⟩;obtain⟨h3,h4⟩:=xV n y1 bC hy;exact h3 (K.ff n m y1 _ _ h4 hl hh h1)
  ·refine⟨H.mF,bw _ hx,.inr H.jb.size,fun n y1 bC hy hh=>?_⟩;obtain⟨h3,h4⟩:=xV n y1 bC hy;have:=(K.eG n y1 _ h4 hh).2.1;omega
 ·rcases vt _ hx with h1|e
  ·exact K.apart m y x b hl h1 hb
  ·simp only at e;subst e;have:=H.wf.Hg b;have:=H.CY hb;omega
theorem OR.named {base m n c':Nat} {ρ':Gh} {S:Ft} {y:TO} (W:Wf h) (H:OR c ρ F h base m S y) (hm:∀t v,VR c ρ F h t v→VR c' ρ' F h t v) (fN:ρ' n=ρ m):OR c' ρ' F h base n S y:=by
 have kk:∀{S:Ft} {l:List TV} {vs:List Value},db c ρ F h base S l vs→db c' ρ' F h base S l vs:=fun hc=>hc.bx (T:=fun _=>False) W (fun _ _ _=>rfl) (fun _ h=>h) (fun _ _ _ h=>h) hm (fun _ _ hf=>hf.elim);cases H with
 |cells hb hg ht hc=>exact .cells (fN.trans hb) hg ht (kk hc)
 |map hb hg hl hc bz=>exact .map (fN.trans hb) hg hl (fun i e e' h1 h2=>let⟨q1,q2,q3,q4⟩:=hc i e e' h1 h2;⟨q1,q2,q3,hm _ _ q4⟩) bz
 |nil hb hz=>exact .nil (fN.trans hb) hz
 |arr hb hg hf ht eF hz hl he iG hc hF=>exact .arr (fN.trans hb) hg hf ht eF hz hl he iG (fun i j e t v q1 q2 q3=>hm _ _ (hc i j e t v q1 q2 q3)) hF
 |ib hb hz=>exact .ib (fN.trans hb) hz
 |cF hb hg hf ht eF hz hl he cH kr hc=>exact .cF (fN.trans hb) hg hf ht eF hz hl he cH kr (kk hc)
 |fp hb hg cH hc bz=>exact .fp (fN.trans hb) hg cH (hc.bx (T:=fun _=>False) W (fun _ _ _=>rfl) (fun _ h=>h) (fun _ _ _ h=>h) hm (fun _ _ hf=>hf.elim)) bz
 |iA hb hg=>exact .iA (fN.trans hb) hg
theorem Mem.rename (H:Mem X ρ F o c h) {m z:Nat} {y:TO} (hl:look o m=some y) {b l:Nat} (hb:ρ m=some (.arr b z l)):
 Mem X (cP (cP ρ m none) c (some (.arr b z l))) F ((c,y)::fY o m) (c+1) h∧∀t v,VR c ρ F h t v→VR (c+1) (cP (cP ρ m none) c (some (.arr b z l))) F h t v:=by
 obtain⟨S,K⟩:=H.ex;have e:(fun x=>F x∨(false=true∧x=h.size))=F:=by funext x;simp
 have:=H.YM K (S0:=S m) (y':=y) (q:=.arr b z l) hl hb (Nat.le_refl _) H.wf (fun _ _=>rfl) (fun _ _ _ h=>h) (fun p hp=>.inl hp) (K.B7 m y hl) (fun x hx=>(K.eG m y x hl hx).2.1) false (fun h=>by cases h) (by simp) fun hm=>by
  rw[e]at hm ⊢;exact(K.cC m y hl).named H.wf hm ((aR _ _ _).trans hb.symm)
 rwa [e]at this
theorem qM (H:Mem X ρ F o c h) {x:TV} {zx n:Nat} {xs:List (List TV)} {op:List (Nat×List TV)} (he:esQ o x=some (zx,xs,op)) (hz:zx=n∨zx=0∧op=[]) (kr:∀p∈op,p.2.all eX=true) {xv:Value} (hx:VR c ρ F h x xv):
 nY xv=some xs.length∧(∀p∈op,p.1<xs.length∧p.2.length=n)∧(∀e∈xs,∀t∈e,fz t=true)∧(xs=[]∨∃new,fL h n xs.length xv=some new∧(op=[]→ER c ρ F h n xs new)∧new.length=xs.length*n∧(∀e∈xs,e.length=n)∧ee c ρ F h (c8 xs op).flatten new):=by
 have done:∀{xs:List (List TV)} {new:List Value},ER c ρ F h n xs new→fL h n xs.length xv=some new→nY xv=some xs.length→nY xv=some xs.length∧(∀p∈([]:List (Nat×List TV)),p.1<xs.length∧p.2.length=n)∧(∀e∈xs,∀t∈e,fz t=true)∧(xs=[]∨∃new,fL h n xs.length xv=some new∧(([]:List (Nat×List TV))=[]→ER c ρ F h n xs new)∧new.length=xs.length*n∧(∀e∈xs,e.length=n)∧ee c ρ F h (c8 xs []).flatten new):=
  fun E h1 h2=>⟨h2,by simp,E.fz,.inr ⟨_,h1,fun _=>E,E.len,E.each,iP E.len E.each E.cell⟩⟩
 unfold esQ at he;split at he
 ·rename_i m;split at he
  ·rename_i z w es hl;cases he;obtain⟨Sm,hO⟩:=H.cC hl;cases hx with
   |tk hn sb ha h0=>
    cases hO with
    |nil hb ku=>
     rcases h0 _ hb with rfl |⟨b,o',cs,q1,q2,q3,q4,rfl⟩
     ·exact⟨rfl,by simp,by simp,.inl rfl⟩
     ·exact⟨rfl,by simp,by simp,.inl rfl⟩
    |arr hb hg hf ht eF ku hlen he iG hc hF=>
     rename_i b f t0 fy aS cs;obtain⟨cap,h1,rfl⟩:=ha _ _ _ hb;have V0:zx=n:=by omega
     subst V0;refine done ⟨hlen,he,iG,hc⟩ ?_ rfl;simp only[fL,M.ai,eu hf ht (az hg),Option.bind_some,List.drop_zero,bf];rw[←hlen];simp
  ·rename_i z es Og hl;split at he
   ·rename_i ni;cases he;obtain⟨Sm,hO⟩:=H.cC hl;have iG:∀e∈xs,∀t∈e,fz t=true:=fun e he t ht=>List.all_eq_true.1 (List.all_eq_true.1 ni e he) t ht;cases hx with
    |tk hn sb ha h0=>
     cases hO with
     |ib hb ku=>
      rcases h0 _ hb with rfl |⟨b,o',cs,q1,q2,q3,q4,rfl⟩
      ·exact⟨rfl,by simp,by simp,.inl rfl⟩
      ·exact⟨rfl,by simp,by simp,.inl rfl⟩
     |cF hb hg hf ht eF ku hlen he cH aiK hc=>
      rename_i b f t0 fy aS cs;obtain⟨cap,h1,rfl⟩:=ha _ _ _ hb;have V0:zx=n:=by omega
      subst V0;have pR:(c8 xs op).flatten.all eX=true:=by
       rw[List.all_eq_true];intro t ht;obtain⟨e,h1,h2⟩:=List.mem_flatten.1 ht;have key:∀(op:List (Nat×List TV)),(∀p∈op,p.2.all eX=true)→e∈c8 xs op→eX t=true:=by
        intro op
        induction op with
        |nil=>intro _ h1;have:=iG e h1 t h2;cases t<;>first|rfl |simp[fz]at this
        |cons p l ih=>
         intro kr h1;rcases List.mem_or_eq_of_mem_set h1 with h3|rfl
         ·exact ih (fun q hq=>kr q (List.mem_cons_of_mem _ hq)) h3
         ·exact List.all_eq_true.1 (kr p List.mem_cons_self) t h2
       exact key op kr h1
      obtain⟨hV,_⟩:=hc.vrs (fun t v hv hf=>hv.eo hf) pR;refine⟨rfl,aiK,iG,.inr ⟨cs,?_,fun e=>?_,hlen,he,hV⟩⟩
      ·simp only[fL,M.ai,eu hf ht (az hg),Option.bind_some,List.drop_zero,bf];rw[←hlen];simp
      ·subst e;refine⟨hlen,he,iG,fun i j e t v q1 q2 q3=>?_⟩;obtain⟨f1,f2⟩:=fE he q1;refine hV.2 (i*zx+j) t v ?_ q3;show xs.flatten[i*zx+j]? =some t;have hj:j<zx:=by rw[←he e (List.mem_of_getElem? q1)];exact(List.getElem?_eq_some_iff.1 q2).1
       rw[←f1,List.getElem?_take,if_pos hj,List.getElem?_drop]at q2;exact q2
   ·cases he
  ·cases he
 ·cases he;cases hx with
  |nil h1=>subst h1;exact⟨rfl,by simp,by simp,.inl rfl⟩
  |sl q1 q2 q3 q4 q5 q6 q7 q8 q9 YI=>
   rename_i b oo len cap cs;have V0:zx=n:=by omega
   subst V0;refine done (new:=(cs.drop oo).take (xs.length*zx)) ⟨by simp;rw[←q4]at q7;omega,q8,q9,fun i j e t v r1 r2 r3=>?_⟩ ?_ (by simp[nY,q4])
   ·rw[List.getElem?_take]at r3;split at r3
    ·rw[List.getElem?_drop]at r3;exact YI i j e t v r1 r2 (by rw[←r3];congr 1;omega)
    ·cases r3
   ·simp only[fL,M.ai,q2,Option.bind_some,bf,and_true,List.length_drop];rw[←q4]at q7;omega
 ·cases he
theorem ER.fU {z:Nat} {es:List (List TV)} {cs:List Value} (A:ER c ρ F h z es cs) (hz:0<z):cs.all M.fU=true:=by
 rw[List.all_eq_true];intro v hv;obtain⟨k,hk⟩:=List.getElem?_of_mem hv;have hkl:k<cs.length:=(List.getElem?_eq_some_iff.1 hk).1;rw[A.len]at hkl;have hi:k / z<es.length:=by
  rw[Nat.div_lt_iff_lt_mul hz];exact hkl
 obtain⟨e,he⟩:∃e,es[k / z]? =some e:=⟨_,List.getElem?_eq_getElem hi⟩;have Mu:=A.each e (List.mem_of_getElem? he);have hj:k % z<e.length:=by rw[Mu];exact Nat.mod_lt _ hz
 obtain⟨t,ht⟩:∃t,e[k % z]? =some t:=⟨_,List.getElem?_eq_getElem hj⟩;have Vc:k / z*z+k % z=k:=by rw[Nat.mul_comm];exact Nat.div_add_mod k z
 have hvr:=A.cell (k / z) (k % z) e t v he ht (by rw[Vc];exact hk);have iG:=A.fz e (List.mem_of_getElem? he) t (List.mem_of_getElem? ht);have hoc:BS t=true:=by
  cases t<;>simp[M.fz]at iG<;>rfl
 exact MB hoc hvr
structure Fj (E:Env) (st xt elem n bytes:Nat):Prop where
 sd:E.desc st=some (.slice elem)
 xd:∃e,E.desc xt=some (.slice e)
 size:E.size elem=some n
 bytes:E.bytes elem=some bytes
 zero:∃z,E.zero elem=some z∧z.cells.size=n
theorem AN {base st xt elem n bytes:Nat} (A:Fj E st xt elem n bytes) {s x:Value} (hs:Oh s=true) (hs0:∀l k,s= .slice none l k→l=0∧k=0) (B4:∀b oo sp l k,s= .slice (some ⟨b,oo,sp⟩) l k→sp.isSome) (hx:nY x=some 0):bQ E base h st xt s x=some (s,h):=by
 obtain⟨e,Qr⟩:=A.xd;obtain⟨z,hz1,V1⟩:=A.zero;unfold bQ;rw[A.sd,Qr];simp only[Option.bind_some,A.size,A.bytes,hz1,hx];simp only[lq,V1,bL];cases s<;>simp[Oh]at hs;rename_i a l k;cases a with
 |none=>obtain⟨rfl,rfl⟩:=hs0 l k rfl;simp
 |some a=>
  obtain⟨b,oo,sp⟩:=a;have:=B4 b oo sp l k rfl;cases sp with
  |none=>simp at this
  |some q=>simp
theorem V8 {base st xt elem n bytes len:Nat} (A:Fj E st xt elem n bytes) {x:Value} {new:List Value} (hx:nY x=some len) (hl:len≠0) (hb:(len+1)*(bytes+1)≤1099511627776) (hf:fL h n len x=some new) (hn:new.length=len*n):
 bQ E base h st xt (.slice none 0 0) x=some (fresh h new n len):=by
 obtain⟨e,Qr⟩:=A.xd;obtain⟨z,hz1,V1⟩:=A.zero;unfold bQ;rw[A.sd,Qr];simp only[Option.bind_some,A.size,A.bytes,hz1,hx];simp only[lq,V1,bL];simp[Hf,hl,aL.2 hb,hf,hn]
theorem H5 {base st xt elem n bytes len b oo sl:Nat} (A:Fj E st xt elem n bytes) {x:Value} {old new:List Value} (hx:nY x=some len) (hl:len≠0) (hb:(sl+len+1)*(bytes+1)≤1099511627776) (hf:fL h n len x=some new) (hn:new.length=len*n)
 (ho:M.ai h b oo (sl*n)=some old):bQ E base h st xt (.slice (some ⟨b,oo,some n⟩) sl sl) x=some (fresh h (old++new) n (sl+len)):=by
 obtain⟨e,Qr⟩:=A.xd;obtain⟨z,hz1,V1⟩:=A.zero;unfold bQ;rw[A.sd,Qr];simp only[Option.bind_some,A.size,A.bytes,hz1,hx];simp only[lq,V1,bL];simp[Hf,hl,aL.2 hb,hf,hn,ho]
theorem V9 {base st xt elem n bytes len b sl cap f aS:Nat} (A:Fj E st xt elem n bytes) {x:Value} {old new cs:List Value} (hx:nY x=some len) (hl:len≠0) (hb:(sl+len+1)*(bytes+1)≤1099511627776) (hf:fL h n len x=some new) (hn:new.length=len*n)
 (ho:M.ai h b 0 (sl*n)=some old) (ik:cap≠sl) (hc:h.cellsOf b=some cs) (oc:h.dQ b=some (f,b,aS)) (eF:base≤f) (lL:new.all fU=true):
 bQ E base h st xt (.slice (some ⟨b,0,some n⟩) sl cap) x=some (.slice (some ⟨h.size,0,some n⟩) (sl+len) (sl+len+1),eL h f (bif Nat.beq (sl*n) cs.length then aS else h.size) (old++new)):=by
 obtain⟨e,Qr⟩:=A.xd;obtain⟨z,hz1,V1⟩:=A.zero;unfold bQ;rw[A.sd,Qr];simp only[Option.bind_some,A.size,A.bytes,hz1,hx];simp only[lq,V1,bL];have h1:new.all fU=true:=lL;simp[Hf,hl,aL.2 hb,hf,hn,ho,ik,hc,oc,aL.2 eF,h1];rfl
theorem Mem.flag {n:Nat} {xs:List (List TV)} {o1:Ob} (H:Mem X ρ F ((c,.arr n true xs)::o1) (c+1) h) (w:Bool):∃F',Mem X ρ F' ((c,.arr n w xs)::o1) (c+1) h∧(∀t v,VR (c+1) ρ F h t v→VR (c+1) ρ F' h t v)∧∀b,F b→F' b:=by
 cases w with
 |true=>exact⟨F,H,fun _ _ h=>h,fun _ h=>h⟩
 |false=>
  obtain⟨F',h1,h2,h3,_⟩:=H.share c;refine⟨F',h1.less fun m y hl=>?_,h2,h3⟩;have:jK ((c,TO.arr n true xs)::o1) c=fu ((c,TO.arr n true xs)::o1) c (.arr n false xs):=by
   unfold jK;rw[aQ,if_pos rfl]
  rw[this,eQ];rw[aQ]at hl;by_cases e:m=c
  ·subst e;rw[if_pos rfl,aQ,if_pos rfl];rw[if_pos rfl]at hl;simpa using hl
  ·rw[if_neg e,aQ,if_neg (fun e2=>e e2.symm)]
   rwa [if_neg (fun e2=>e e2.symm)]at hl
theorem vC (H:Mem X ρ F o c h) {m:Nat} {y:TO} {l:Option Loc}:∀n yn,look o n=some yn→n∉[m]→(∃y',look ((c,y)::fY o m) n=some y')∧cP (cP ρ m none) c l n=ρ n:=by
 intro n yn hn bC;have pk:n≠m:=by simpa using bC
 have:=H.lt hn;exact⟨⟨yn,by rw[aQ,if_neg om,dP,if_neg pk];exact hn⟩,by rw[bA _ _ om,bA _ _ pk]⟩
theorem Kz {xs:List (List TV)}:∀{op:List (Nat×List TV)} {es:List (List TV)},(∀p∈op,p.1<es.length)→c8 (es++xs) op=c8 es op++xs∧(c8 es op).length=es.length
 |[],_,_=>⟨rfl,rfl⟩
 |p::l,es,h=>by
  obtain⟨a,b⟩:=Kz (xs:=xs) (op:=l) (es:=es) fun q hq=>h q (List.mem_cons_of_mem _ hq);have:=h p List.mem_cons_self;exact⟨by rw[c8,c8,a,List.set_append_left _ _ om],by rw[c8,List.length_set,b]⟩
theorem Wa {es xs:List (List TV)} {q:Nat×List TV} {op:List (Nat×List TV)} (h:∀p∈op,p.1<es.length):c8 (es++xs) ((es.length+q.1,q.2)::op)=c8 es op++c8 xs [q]:=by
 obtain⟨a,b⟩:=Kz (xs:=xs) h;rw[c8,a,List.set_append_right _ _ om,b];simp[c8]
theorem ee.aeI {l:List TV} {m:List Value} (H:ee c ρ F h l m) (ho:∀t∈l,BS t=true):m.all M.fU=true:=zh (List.all_eq_true.2 ho) H
theorem lf (H:Mem X ρ F o c h) {st xt elem:TypeId} {n bytes:Nat} {xs:List (List TV)} {op:List (Nat×List TV)} {sv xv:Value} {F1:Nat→Prop} {o1:Ob} {iE:Gh} {y1 y2:TO} {ns:List Nat} (A:Fj E st xt elem n bytes) (ta:0<n) (hlen:nY xv=some xs.length)
 (lU:xs=[]∨∃new,fL h n xs.length xv=some new∧(op=[]→ER c ρ F h n xs new)∧new.length=xs.length*n∧(∀e∈xs,e.length=n)∧ee c ρ F h (c8 xs op).flatten new)
 (fin:∀v h',bQ E X.base h st xt sv xv=some (v,h')→dk E X.base af p h=some (.val v,h')) (hp:aO E af p=none) (hq:bP E af p=none) (dh:bt E af p=none)
 (M1:Mem X iE F1 o1 c h) (k1:∀t v,VR c ρ F h t v→VR c iE F1 h t v) (f1:∀b,F b→F1 b) (w1:∀m y,look o m=some y→m∉ns→(∃y',look o1 m=some y')∧iE m=ρ m)
 (zj:sv= .slice none 0 0∨∃b oo cs,F b∧h.rd b=some cs∧oo≤cs.length∧sv= .slice (some ⟨b,oo,some n⟩) 0 0) (mM:(xs.length+1)*(bytes+1)≤1099511627776)
 (N7:xs=[]→∀(c:Nat) (ρ:Gh) (F:Nat→Prop) (m:Nat),ρ m=some (.nil n)→OR c ρ F h X.base m [] y1)
 (ml:∀new,(op=[]→ER c iE F1 h n xs new)→new.length=xs.length*n→(∀e∈xs,e.length=n)→ee c iE F1 h (c8 xs op).flatten new→Mem X (cP iE c (some (.arr h.size n xs.length))) F1 ((c,y1)::o1) (c+1) (h.push (.cells new h.size h.size 0))∧∀t v,VR c iE F1 h t v→VR (c+1) (cP iE c (some (.arr h.size n xs.length))) F1 (h.push (.cells new h.size h.size 0)) t v)
 (fl:∀{iE:Gh} {F1:Nat→Prop} {h1:ah},Mem X iE F1 ((c,y1)::o1) (c+1) h1→∃F',Mem X iE F' ((c,y2)::o1) (c+1) h1∧(∀t v,VR (c+1) iE F1 h1 t v→VR (c+1) iE F' h1 t v)∧∀b,F1 b→F' b)
 (hK:K (.tk c) ((c,y2)::o1) (c+1) (.dI ns)):fv E X ρ F o c af h p K:=by
 have ME:∀m y,look o m=some y→m≠c:=fun m y hl=>by have:=H.lt hl;omega
 by_cases u5:xs.length=0
 ·have YN:xs=[]:=List.length_eq_zero_iff.1 u5;obtain⟨M2,k2⟩:=M1.V7 (y:=y1) (z:=n) (N7 YN);obtain⟨F3,M3,k3,f3⟩:=fl M2;have Aa:bQ E X.base h st xt sv xv=some (sv,h):=by
   refine AN A ?_ ?_ ?_ (by rw[hlen,u5])
   ·rcases zj with rfl |⟨b,oo,cs,_,_,_,rfl⟩<;>rfl
   ·rintro l k e;rcases zj with rfl |⟨b,oo,cs,_,_,_,rfl⟩<;>cases e;exact⟨rfl,rfl⟩
   ·rintro b oo sp l k e;rcases zj with rfl |⟨b,oo,cs,_,_,_,rfl⟩<;>cases e;rfl
  refine fv.dI H hp hq dh (fin _ _ Aa) ⟨M3,fun t x hx=>k3 t x (k2 t x (k1 t x hx)),Nat.le_refl _,fun b hb=>f3 b (f1 b hb),fun _ _ _ hr=>hr⟩ ?_ (fun m y hl hm=>⟨?_,?_,fun b _=>⟨rfl,fun _ hr=>hr⟩⟩) hK
  ·refine .tk om (by rcases zj with rfl |⟨b,oo,cs,_,_,_,rfl⟩<;>rfl) (fun b z len hx=>?_) (fun z hx=>?_)
   ·rw[aR]at hx;cases hx
   ·rw[aR]at hx;cases hx;rcases zj with rfl |⟨b,oo,cs,q1,q2,q3,rfl⟩
    ·exact .inl rfl
    ·exact .inr ⟨b,oo,cs,f3 _ (f1 _ q1),q2,ta,q3,rfl⟩
  ·rw[aQ,if_neg (ME m y hl).symm];exact(w1 m y hl hm).1
  ·rw[bA _ _ (ME m y hl)];exact(w1 m y hl hm).2
 ·rcases lU with e|⟨new,Qs,hE,u4,Qp,hV⟩
  ·subst e;simp at u5
  ·obtain⟨M2,k2⟩:=ml new (fun e=>(hE e).mono k1) u4 Qp (hV.tn k1);obtain⟨F3,M3,k3,f3⟩:=fl M2;have Aa:bQ E X.base h st xt sv xv=some (fresh h new n xs.length):=by
    rcases zj with rfl |⟨b,oo,cs,_,q2,q3,rfl⟩
    ·exact V8 A hlen u5 mM Qs u4
    ·have:=H5 (base:=X.base) (sl:=0) (old:=[]) (b:=b) (oo:=oo) A hlen u5 (by simpa using mM) Qs u4 (by simp[M.ai,q2,takeN]);simpa using this
   refine fv.dI H hp hq dh (fin _ _ Aa) ⟨M3,fun t x hx=>k3 t x (k2 t x (k1 t x hx)),by show h.size≤h.size+1;omega,fun b hb=>f3 b (f1 b hb),fun b cs hb hr=>(eI H.wf.le _ (H.CY hb)).trans hr⟩ ?_ (fun m y hl hm=>⟨?_,?_,fun b hb=>?_⟩) hK
   ·refine .tk om rfl (fun b z len hx=>?_) (fun z hx=>?_)
    ·rw[aR]at hx;cases hx;exact⟨_,om,rfl⟩
    ·rw[aR]at hx;cases hx
   ·rw[aQ,if_neg (ME m y hl).symm];exact(w1 m y hl hm).1
   ·rw[bA _ _ (ME m y hl)];exact(w1 m y hl hm).2
   ·have:=H.AH hl hb;exact⟨by rw[ah.al,if_neg om],fun cs hr=>by rw[eI H.wf.le _ this];exact hr⟩
theorem MF (H:Mem X ρ F o c h) {st xt elem:TypeId} {z bytes:Nat} {xs:List (List TV)} {xv:Value} {S:Nat→Ft} (K0:MO X ρ F o c h S) {m b f t0 fy aS len cap l0:Nat} {w:Bool} {y y2:TO} {Sq:Ft} {cs new:List Value} (A:Fj E st xt elem z bytes) (hlen:nY xv=some xs.length) (u5:xs.length≠0)
 (fin:∀v h',bQ E X.base h st xt (.slice (some ⟨b,0,some z⟩) len cap) xv=some (v,h')→dk E X.base af p h=some (.val v,h')) (hp:aO E af p=none) (hq:bP E af p=none) (dh:bt E af p=none)
 (hl:look o m=some y) (hS:S m=(f,w)::Sq) (hb:ρ m=some (.arr b z l0)) (hg:h.get b=some (.cells cs f t0 fy)) (hf:h.dQ b=some (f,b,aS)) (ht:aS≤b) (eF:X.base≤f) (_:0<z) (NS:len*z≤cs.length) (hlw:cs.length=len*z∨w=true) (ik:len≤cap)
 (mM:(len+xs.length+1)*(bytes+1)≤1099511627776) (Qs:fL h z xs.length xv=some new) (u4:new.length=xs.length*z) (lL:new.all fU=true) (hw:w=true∨Sq=[])
 (xU:∀{c':Nat} {ρ':Gh} {F':Nat→Prop} {h':ah} {b' f' t1 zJ wj:Nat} {T:Nat→Prop},(∀t v,VR c ρ F h t v→VR c' ρ' F' h' t v)→(∀b,F b→F' b)→(∀b cs,F b→h.rd b=some cs→h'.rd b=some cs)→(∀b,b<h.size→¬T (hd h b)→h'.get b=h.get b)→(∀x∈cM Sq,¬T x)→
  ρ' c=some (.arr b' z (len+xs.length))→h'.get b'=some (.cells (cs.take (len*z)++new) f' t1 zJ)→h'.dQ b'=some (f',b',wj)→wj≤b'→X.base≤f'→(w=false→F' b')→OR c' ρ' F' h' X.base c ((f',w)::Sq) y2)
 (hK:K (.tk c) ((c,y2)::fY o m) (c+1) (.dI [m])):fv E X ρ F o c af h p K:=by
 have gW:=eu hf ht (az hg);have B2:M.ai h b 0 (len*z)=some (cs.take (len*z)):=by
  simp only[M.ai,gW,Option.bind_some,List.drop_zero,bf];simp[NS]
 obtain⟨c0,bZ⟩:=bS hf;simp only at bZ;have BT:f∈cM (S m):=by rw[hS];exact List.mem_cons_self
 have pn:=K0.B7 m _ hl;rw[hS]at pn;obtain⟨n1,n2⟩:=List.nodup_cons.1 pn;by_cases cH:cap=len
 ·subst cH;have Aa:=H5 (base:=X.base) A hlen u5 mM Qs u4 B2;have hgN:(h.push (.cells (cs.take (cap*z)++new) h.size h.size 0)).get h.size=some (.cells (cs.take (cap*z)++new) h.size h.size 0):=by rw[ah.al,if_pos rfl]
  have c7:∀b cs',F b→h.rd b=some cs'→(h.push (.cells (cs.take (cap*z)++new) h.size h.size 0)).rd b=some cs':=fun b cs' hb hr=>(eI H.wf.le _ (H.CY hb)).trans hr;have RF:∀b,b<h.size→(h.push (.cells (cs.take (cap*z)++new) h.size h.size 0)).get b=h.get b:=fun b hb=>by rw[ah.al,if_neg om]
  have aiM:∀F3,(∀b,F b→F3 b)→Mem X (cP (cP ρ m none) c (some (.arr h.size z (cap+xs.length)))) F3 ((c,y2)::fY o m) (c+1) (h.push (.cells (cs.take (cap*z)++new) h.size h.size 0))→(∀t x,VR c ρ F h t x→VR (c+1) (cP (cP ρ m none) c (some (.arr h.size z (cap+xs.length)))) F3 (h.push (.cells (cs.take (cap*z)++new) h.size h.size 0)) t x)→fv E X ρ F o c af h p K:=by
   intro F3 f3 M3 k3;refine fv.dI H hp hq dh (fin _ _ Aa) ⟨M3,k3,by show h.size≤h.size+1;omega,f3,c7⟩ ?_ (fun n y zS bC=>?_) hK
   ·refine .tk om rfl (fun b' z' len hx=>?_) (fun z hx=>?_)
    ·rw[aR]at hx;cases hx;exact⟨cap+xs.length+1,om,by simp⟩
    ·rw[aR]at hx;cases hx
   ·obtain⟨q1,q2⟩:=vC H (y:=y2) (l:=some (.arr h.size z (cap+xs.length))) n y zS bC;have bw:=fun b' cA=>H.AH (b:=b') zS cA;exact⟨q1,q2,fun b' cA=>⟨RF b' (bw b' cA),fun cs hr=>(eI H.wf.le _ (bw b' cA)).trans hr⟩⟩
  have aiN:Wf (h.push (.cells (cs.take (cap*z)++new) h.size h.size 0)):=H.wf.push fun cs f dj aS e=>by cases e;exact Nat.le_refl _
  obtain⟨M3,k3⟩:=H.YM K0 (S0:=(h.size,w)::Sq) (y':=y2) (q:=.arr h.size z (cap+xs.length)) (h':=h.push (.cells (cs.take (cap*z)++new) h.size h.size 0)) hl hb (by rw[ah.size_push];omega) aiN RF c7 (fun p hp=>by
   rcases List.mem_cons.1 hp with rfl |hp
   ·exact .inr rfl
   ·rw[hS];exact .inl (List.mem_cons_of_mem _ hp)) (List.nodup_cons.2 ⟨fun hx=>by
    have:=(K0.eG m _ h.size hl (by rw[hS];exact List.mem_cons_of_mem _ hx)).2.1;omega,n2⟩) (fun x hx=>by
    rw[ah.size_push];rcases List.mem_cons.1 hx with rfl |hx
    ·simp
    ·have:=(K0.eG m _ x hl (by rw[hS];exact List.mem_cons_of_mem _ hx)).2.1;omega) (!w) (fun yV=>by
    have L4:w=false:=by simpa using yV
    subst L4;have hSq:Sq=[]:=by rcases hw with h|h;cases h;exact h
    subst hSq;exact⟨by rw[eu (bR hgN hgN) (Nat.zero_le _) (az hgN)];rfl,cy hgN,by simp⟩) (by simp) fun hm=>
   xU (T:=fun _=>False) hm (fun _ h=>.inl h) c7 (fun b hb _=>RF b hb) (fun _ _ hf=>hf.elim) (aR _ _ _) hgN (bR hgN hgN) (Nat.zero_le _) H.mF (fun h=>.inr ⟨by simp[h],rfl⟩)
  exact aiM _ (fun _ h=>.inl h) M3 k3
 ·have Aa:=V9 (base:=X.base) (cap:=cap) A hlen u5 mM Qs u4 B2 cH (az hg) hf eF lL;obtain⟨dA,JA⟩:∃t,t=(bif Nat.beq (len*z) cs.length then aS else h.size):=⟨_,rfl⟩;rw[←JA]at Aa;have QF:=H.wf.lt hg;have aeJ:dA≤h.size:=by cases Qh:Nat.beq (len*z) cs.length<;>rw[Qh]at JA<;>simp only[cond_true,cond_false]at JA<;>omega
  have aeK:dA=aS∨w=true:=by
   rcases hlw with e|e
   ·left;rw[JA,e,show Nat.beq (len*z) (len*z)=true from beq_iff.2 rfl];rfl
   ·exact .inr e
  have RG:∀x,x<h.size→hd h x≠f→(eL h f dA (cs.take (len*z)++new)).get x=h.get x:=fun x hx hx2=>by
   rw[ext_get bZ,if_neg om,if_neg];intro e;subst e;exact hx2 (cy bZ)
  have aiO:∀x cs',F x→h.rd x=some cs'→(eL h f dA (cs.take (len*z)++new)).rd x=some cs':=fun x cs' hx hr=>by
   rcases aeK with e|e
   ·rw[e];exact Rn H.wf bZ hr
   ·exact j5 H.wf RG (K0.apart m _ f x hl (by rw[hS,e];exact List.mem_cons_self) hx) hr
  obtain⟨M2,k2⟩:=H.aej K0 dA (len':=len+xs.length) (cs':=cs.take (len*z)++new) (y':=y2) hl hS hb hg hf ht aeJ aeK fun hm same c7 wz hfc=>
   xU (T:=fun x=>x=f) hm (fun _ h=>.inl h) c7 same (fun x hx e=>n1 (by subst e;exact hx)) (aR _ _ _) wz hfc aeJ eF (fun hw=>.inr ⟨hw,rfl⟩)
  refine fv.dI H hp hq dh (fin _ _ Aa) ⟨M2,k2,by rw[vq];omega,fun _ h=>.inl h,aiO⟩ ?_ (fun n y zS bC=>?_) hK
  ·refine .tk om rfl (fun b' z' len hx=>?_) (fun z hx=>?_)
   ·rw[aR]at hx;cases hx;exact⟨_,om,rfl⟩
   ·rw[aR]at hx;cases hx
  ·obtain⟨q1,q2⟩:=vC H (y:=y2) (l:=some (.arr h.size z (len+xs.length))) n y zS bC;have pk:n≠m:=by simpa using bC
   refine⟨q1,q2,fun b' cA=>?_⟩;obtain⟨bw,hh⟩:=H.Fh K0 zS cA;have aeL:hd h b'≠f:=fun e=>by
    rw[e]at hh;exact pk (K0.ff n m _ _ _ zS hl hh BT)
   exact⟨RG b' bw aeL,fun cs hr=>j5 H.wf RG aeL hr⟩
theorem KE (H:Mem X ρ F o c h) {st xt elem:TypeId} {z bytes:Nat} {xs:List (List TV)} {xv:Value} {S:Nat→Ft} (K0:MO X ρ F o c h S) {m b f t0 fy aS len cap:Nat} {w:Bool} {y y2:TO} {Sq:Ft} {cs new:List Value} (A:Fj E st xt elem z bytes) (hlen:nY xv=some xs.length) (u5:xs.length≠0)
 (fin:∀v h',bQ E X.base h st xt (.slice (some ⟨b,0,some z⟩) len cap) xv=some (v,h')→dk E X.base af p h=some (.val v,h')) (hp:aO E af p=none) (hq:bP E af p=none) (dh:bt E af p=none)
 (hl:look o m=some y) (hS:S m=(f,w)::Sq) (hb:ρ m=some (.arr b z len)) (hg:h.get b=some (.cells cs f t0 fy)) (hf:h.dQ b=some (f,b,aS)) (ht:aS≤b) (eF:X.base≤f) (hz:0<z) (NS:cs.length=len*z) (ik:len≤cap)
 (mM:(len+xs.length+1)*(bytes+1)≤1099511627776) (Qs:fL h z xs.length xv=some new) (u4:new.length=xs.length*z) (lL:new.all fU=true) (hw:w=true∨Sq=[])
 (xU:∀{c':Nat} {ρ':Gh} {F':Nat→Prop} {h':ah} {b' f' t1 zJ wj:Nat} {T:Nat→Prop},(∀t v,VR c ρ F h t v→VR c' ρ' F' h' t v)→(∀b,F b→F' b)→(∀b cs,F b→h.rd b=some cs→h'.rd b=some cs)→(∀b,b<h.size→¬T (hd h b)→h'.get b=h.get b)→(∀x∈cM Sq,¬T x)→
  ρ' c=some (.arr b' z (len+xs.length))→h'.get b'=some (.cells (cs++new) f' t1 zJ)→h'.dQ b'=some (f',b',wj)→wj≤b'→X.base≤f'→(w=false→F' b')→OR c' ρ' F' h' X.base c ((f',w)::Sq) y2)
 (hK:K (.tk c) ((c,y2)::fY o m) (c+1) (.dI [m])):fv E X ρ F o c af h p K:=by
 have e:cs.take (len*z)=cs:=List.take_of_length_le om;exact MF H K0 A hlen u5 fin hp hq dh hl hS hb hg hf ht eF hz om (.inl NS) ik mM Qs u4 lL hw (by rw[e];exact xU) hK
theorem H6 (L:cm T E) (H:Mem X ρ F o c h) {st xt:TypeId} {l:Int} {sv:Value} {fl:Bool} (hw:Ag T st xt l o c K) (hs:VR c ρ F h (.sl 0 [] fl) sv) (hp:aO E af p=none) (hq:bP E af p=none) (dh:bt E af p=none)
 (fin:∀v h',jg E h st xt sv (.int .i64 l)=some (v,h')→dk E X.base af p h=some (.val v,h')):fv E X ρ F o c af h p K:=by
 have ME:∀m y,look o m=some y→m≠c:=fun m y hl=>by have:=H.lt hl;omega
 have e:sv= .slice none 0 0:=by
  cases hs with
  |nil=>rfl
  |sl q1 q2 q3=>omega
 subst e;unfold Ag at hw;split at hw
 ·rename_i elem k hd Qr;split at hw
  ·rename_i n bytes z hn Jz hz;obtain⟨ku,pR⟩:=L.zero _ _ hz;split at hw
   ·rename_i zs hc jZ;simp only[Bool.and_eq_true,beq_iff,bc]at hc;obtain⟨⟨kR,tT⟩,KF⟩:=hc;split at hw
    ·rename_i Vg;obtain⟨⟨b1,b2⟩,hK⟩:=hw;have mM:(l.toNat+1)*(bytes+1)≤1099511627776:=size_le om KF;have tV:=gN (c:=c) (ρ:=ρ) (F:=F) (h:=h) pR jZ;have On:zs.length=n:=by have:=tV.1;simp only[Array.length_toList]at this;omega
     have hE:=ER.replicate tV On Vg l.toNat
     obtain⟨M2,k2⟩:=H.E2 hE tT;have Aa:jg E h st xt (.slice none 0 0) (.int .i64 l)=some (fresh h (aW z.cells.toList l.toNat) n l.toNat):=by
      unfold jg;rw[L.desc _ _ hd,L.desc _ _ Qr];simp only[Option.bind_some,L.size _ _ hn,L.bytes _ _ Jz,ku];simp only[lq,kR,bL];rw[show Nat.beq n n=true from beq_iff.2 rfl,show Nat.blt 0 n=true from bc.2 tT,show Nat.blt 0 l.toNat=true from bc.2 om,aL.2 mM];rfl
     rw[List.length_replicate]at M2 k2;refine fv.dI H hp hq dh (fin _ _ Aa) ⟨M2,k2,by show h.size≤h.size+1;omega,fun _ h=>h,fun b cs hb hr=>(eI H.wf.le _ (H.CY hb)).trans hr⟩ ?_ (fun m y hl hm=>⟨?_,?_,fun b hb=>?_⟩) hK
     ·refine .tk om rfl (fun b z len hx=>?_) (fun z hx=>?_)
      ·rw[aR]at hx;cases hx;exact⟨_,om,rfl⟩
      ·rw[aR]at hx;cases hx
     ·rw[aQ,if_neg (ME m y hl).symm];exact⟨y,hl⟩
     ·rw[bA _ _ (ME m y hl)]
     ·have:=H.AH hl hb;exact⟨by rw[ah.al,if_neg om],fun cs hr=>by rw[eI H.wf.le _ this];exact hr⟩
    ·exact hw.elim
   ·exact hw.elim
  ·exact hw.elim
 ·exact hw.elim
theorem KK (L:cm T E) (H:Mem X ρ F o c h) {st xt:TypeId} {s x:TV} {sv xv:Value} (hw:EL T st xt s x o c K) (hs:VR c ρ F h s sv) (hx:VR c ρ F h x xv) (hp:aO E af p=none) (hq:bP E af p=none) (dh:bt E af p=none)
 (fin:∀v h',bQ E X.base h st xt sv xv=some (v,h')→dk E X.base af p h=some (.val v,h')):fv E X ρ F o c af h p K:=by
 have w0:∀m y,look o m=some y→m∉([]:List Nat)→(∃y',look o m=some y')∧ρ m=ρ m:=fun m y hl _=>⟨⟨y,hl⟩,rfl⟩
 -- a slice without elements
 have emp:∀{z n:Nat},z=n∨z=0→VR c ρ F h (.sl z [] true) sv→sv= .slice none 0 0∨∃b oo cs,F b∧h.rd b=some cs∧oo≤cs.length∧sv= .slice (some ⟨b,oo,some n⟩) 0 0:=by
  intro z n hz hs;cases hs with
  |nil=>exact .inl rfl
  |sl q1 q2 q3 q4 q5 q6 q7 q8 q9 YI=>
   have V0:z=n:=by omega
   subst V0;simp at q4;subst q4;rw[q6 rfl];exact .inr ⟨_,_,_,q1,q2,om,rfl⟩
 have flq:∀{y:TO} {o1:Ob} {iE:Gh} {F1:Nat→Prop} {h1:ah},Mem X iE F1 ((c,y)::o1) (c+1) h1→∃F',Mem X iE F' ((c,y)::o1) (c+1) h1∧(∀t v,VR (c+1) iE F1 h1 t v→VR (c+1) iE F' h1 t v)∧∀b,F1 b→F' b:=
  fun {y o1 iE F1 h1} M=>⟨F1,M,fun _ _ h=>h,fun _ h=>h⟩
 have closed:∀{e:List TV},(∀t∈e,fz t=true)→∀t∈e,nV t=true:=fun {e} he t ht=>by
  have:=he t ht;unfold nV;split<;>first|rfl |exact this
 unfold EL at hw;split at hw
 ·rename_i elem akE hsd Qr;split at hw
  ·rename_i n bytes z0 zx xs hn Jz Gy Mz;split at hw
   ·rename_i hc;simp only[Bool.and_eq_true,beq_iff,bc,Bool.or_eq_true]at hc;obtain⟨⟨⟨aak,ta⟩,hzx⟩,KF⟩:=hc;have size:∀{k:Nat},k<1048576→(k+1)*(bytes+1)≤1099511627776:=fun {k} hk=>size_le hk KF;have A:Fj E st xt elem n bytes:=⟨L.desc _ _ hsd,⟨_,L.desc _ _ Qr⟩,L.size _ _ hn,L.bytes _ _ Jz,_,(L.zero _ _ Gy).1,aak⟩;obtain⟨hlen,_,YO,lU⟩:=qM H Mz (hzx.imp id fun h=>⟨h,rfl⟩) (by simp) hx
    have aal:∀{iE:Gh} {F1:Nat→Prop} {o1:Ob},Mem X iE F1 o1 c h→∀new,(([]:List (Nat×List TV))=[]→ER c iE F1 h n xs new)→new.length=xs.length*n→(∀e∈xs,e.length=n)→ee c iE F1 h (c8 xs []).flatten new→Mem X (cP iE c (some (.arr h.size n xs.length))) F1 ((c,.arr n true xs)::o1) (c+1) (h.push (.cells new h.size h.size 0))∧∀t v,VR c iE F1 h t v→VR (c+1) (cP iE c (some (.arr h.size n xs.length))) F1 (h.push (.cells new h.size h.size 0)) t v:=
     fun M1 new hE _ _ _=>M1.E2 (hE rfl) ta
    split at hw
    ·rename_i z;split at hw
     ·rename_i hz;simp only[Bool.or_eq_true,beq_iff]at hz;obtain⟨mM,hK⟩:=hw;exact lf H A ta hlen lU fin hp hq dh H (fun _ _ h=>h) (fun _ h=>h) w0 (emp hz hs) (size mM) (fun e c ρ F m hm=>by subst e;exact .nil hm ta) (aal H) flq hK
     ·exact hw.elim
    ·rename_i m;split at hw
     ·rename_i z w es hl;split at hw
      ·rename_i hz;rw[beq_iff]at hz;subst hz;obtain⟨RH,hK⟩:=hw;have mM:=size RH;obtain⟨S,K0⟩:=H.ex;have hO:=K0.cC m _ hl;generalize hS:S m=Sm at hO;have H7:=hO.tk rfl hs;cases hO with
       |nil hb ku=>
        rcases H7 with⟨_,_,zj⟩|⟨b,cap,h1,_⟩
        ·obtain⟨M1,k1⟩:=H.gone hl rfl;refine lf H (ns:=[m]) (y1:=.arr z true xs) (y2:=.arr z w xs) A ta hlen lU fin hp hq dh M1 k1 (fun _ h=>h) (fun n y zS bC=>?_) (zj.imp id fun⟨b,o',cs,q1,q2,q3,q4,q5⟩=>⟨b,o',cs,q1,q2,q4,q5⟩) (by simpa using mM) (fun e c ρ F m hm=>by subst e;exact .nil hm ta) (aal M1) (fun M=>M.flag w) (by simpa using hK);have pk:n≠m:=by simpa using bC
         exact⟨⟨y,by rw[dP,if_neg pk];exact zS⟩,bA _ _ pk⟩
        ·rw[hb]at h1;cases h1
       |arr hb hg hf ht eF ku c6 nv iG hc hF=>
        rename_i b f t0 fy aS cs;rcases H7 with⟨_,h1,_⟩|⟨b',cap,h1,ik,rfl⟩
        ·rw[hb]at h1;cases h1
        ·rw[hb]at h1;cases h1;by_cases u5:xs.length=0
         ·have YN:xs=[]:=List.length_eq_zero_iff.1 u5;subst YN;obtain⟨M2,k2⟩:=H.rename hl hb
          have Aa:bQ E X.base h st xt (.slice (some ⟨b,0,some z⟩) es.length cap) xv=some (.slice (some ⟨b,0,some z⟩) es.length cap,h):=
           AN A rfl (by rintro l k e;cases e) (by rintro b oo sp l k e;cases e;rfl) hlen
          rw[List.append_nil]at hK;refine fv.dI H hp hq dh (fin _ _ Aa) ⟨M2,k2,Nat.le_refl _,fun _ h=>h,fun _ _ _ hr=>hr⟩ ?_ (fun n y zS bC=>?_) hK
          ·refine .tk om rfl (fun b' z' len hx=>?_) (fun z hx=>?_)
           ·rw[aR]at hx;cases hx;exact⟨_,ik,rfl⟩
           ·rw[aR]at hx;cases hx
          ·obtain⟨q1,q2⟩:=vC H (y:=.arr z w es) (l:=some (.arr b z es.length)) n y zS bC;exact⟨q1,q2,fun b' _=>⟨rfl,fun _ hr=>hr⟩⟩
         ·rcases lU with e|⟨new,ml,hE,u4,Qp,hV⟩
          ·subst e;simp at u5
          ·have hEE:ER c ρ F h z (es++xs) (cs++new):=ER.append ⟨c6,nv,iG,hc⟩ (hE rfl);refine KE H K0 (y2:=.arr z w (es++xs)) A hlen u5 fin hp hq dh hl hS hb hg hf ht eF ku c6 ik mM ml u4 ((hE rfl).fU ku) (.inr rfl) (fun hm qy c7 same hT KL lu BP Wb H8 Ve=>?_) hK;exact OR.Rl (by rw[List.length_append];exact KL) lu BP Wb H8 ku (hEE.mono hm) Ve
      ·exact hw.elim
     ·rename_i z es Mm hl;split at hw
      ·rename_i hz;rw[beq_iff]at hz;subst hz;obtain⟨RH,hK⟩:=hw;have mM:=size RH;obtain⟨S,K0⟩:=H.ex;have hO:=K0.cC m _ hl;generalize hS:S m=Sm at hO;have H7:=hO.tk rfl hs;cases hO with
       |ib hb ku=>
        rcases H7 with⟨_,_,zj⟩|⟨b,cap,h1,_⟩
        ·obtain⟨M1,k1⟩:=H.gone hl rfl;refine lf H (ns:=[m]) (y1:=.cF z xs []) (y2:=.cF z xs []) A ta hlen lU fin hp hq dh M1 k1 (fun _ h=>h) (fun n y zS bC=>?_) (zj.imp id fun⟨b,o',cs,q1,q2,q3,q4,q5⟩=>⟨b,o',cs,q1,q2,q4,q5⟩) (by simpa using mM) (fun e c ρ F m hm=>by subst e;exact .ib hm ta) (fun new hE h1 h2 h3=>?_) flq (by simpa using hK)
         ·have pk:n≠m:=by simpa using bC
          exact⟨⟨y,by rw[dP,if_neg pk];exact zS⟩,bA _ _ pk⟩
         ·exact M1.Kf ⟨h1,h2,fun e he=>closed (YO e he),by simp,db.lP h3⟩ ta
        ·rw[hb]at h1;cases h1
       |cF hb hg hf ht eF ku c6 nv cH kr hc=>
        rename_i Sq b f t0 fy aS cs;rcases H7 with⟨_,h1,_⟩|⟨b',cap,h1,ik,rfl⟩
        ·rw[hb]at h1;cases h1
        ·rw[hb]at h1;cases h1;by_cases u5:xs.length=0
         ·have YN:xs=[]:=List.length_eq_zero_iff.1 u5;subst YN;obtain⟨M2,k2⟩:=H.rename hl hb
          have Aa:bQ E X.base h st xt (.slice (some ⟨b,0,some z⟩) es.length cap) xv=some (.slice (some ⟨b,0,some z⟩) es.length cap,h):=
           AN A rfl (by rintro l k e;cases e) (by rintro b oo sp l k e;cases e;rfl) hlen
          rw[List.append_nil]at hK;refine fv.dI H hp hq dh (fin _ _ Aa) ⟨M2,k2,Nat.le_refl _,fun _ h=>h,fun _ _ _ hr=>hr⟩ ?_ (fun n y zS bC=>?_) hK
          ·refine .tk om rfl (fun b' z' len hx=>?_) (fun z hx=>?_)
           ·rw[aR]at hx;cases hx;exact⟨_,ik,rfl⟩
           ·rw[aR]at hx;cases hx
          ·obtain⟨q1,q2⟩:=vC H (y:=.cF z es Mm) (l:=some (.arr b z es.length)) n y zS bC;exact⟨q1,q2,fun b' _=>⟨rfl,fun _ hr=>hr⟩⟩
         ·rcases lU with e|⟨new,ml,hE,u4,Qp,hV⟩
          ·subst e;simp at u5
          ·refine KE H K0 (y2:=.cF z (es++xs) Mm) A hlen u5 fin hp hq dh hl hS hb hg hf ht eF ku c6 ik mM ml u4 ((hE rfl).fU ku) (.inl rfl) (fun hm qy c7 same hT KL lu BP Wb H8 Ve=>?_) hK;refine OR.Z4 (by rw[List.length_append];exact KL) lu BP Wb H8 ku ⟨by simp[c6,u4,Nat.add_mul],fun e he=>?_,fun e he=>?_,fun p hp=>⟨by have:=(kr p hp).1;simp;omega,(kr p hp).2⟩,?_⟩
           ·rcases List.mem_append.1 he with h1|h1
            ·exact nv e h1
            ·exact Qp e h1
           ·rcases List.mem_append.1 he with h1|h1
            ·exact cH e h1
            ·exact closed (YO e h1)
           ·have:=(hc.bx H.wf same qy c7 hm hT).join (db.lP (base:=X.base) (hV.tn hm));rw[List.append_nil]at this;rw[(Kz fun p hp=>(kr p hp).1).1,List.flatten_append];exact this
      ·exact hw.elim
     ·exact hw.elim
    ·rename_i m k;split at hw
     ·rename_i z es hl;split at hw
      ·rename_i hz;rw[beq_iff]at hz;subst hz;obtain⟨⟨Qt,RH,YN⟩,hK⟩:=hw;have mM:=size RH;have u5:xs.length≠0:=fun e=>YN (List.length_eq_zero_iff.1 e);obtain⟨S,K0⟩:=H.ex;have hO:=K0.cC m _ hl;generalize hS:S m=Sm at hO;cases hs with
       |pv JB sb ha h0=>
       cases hO with
       |nil hb ku=>
        have zj:=h0 _ hb;have Mf:k=0:=by simpa using Qt
        subst Mf;obtain⟨M1,k1⟩:=H.gone hl rfl;refine lf H (ns:=[m]) (y1:=.arr z true xs) (y2:=.arr z true xs) A ta hlen lU fin hp hq dh M1 k1 (fun _ h=>h) (fun n y hl bC=>?_) (zj.imp id fun⟨b,o',cs,q1,q2,q3,q4,q5⟩=>⟨b,o',cs,q1,q2,q4,q5⟩) (by simpa using mM) (fun e c ρ F m hm=>by subst e;exact .nil hm ta) (aal M1) flq (by simpa using hK);have pk:n≠m:=by simpa using bC
        exact⟨⟨y,by rw[dP,if_neg pk];exact hl⟩,bA _ _ pk⟩
       |arr hb hg hf ht eF ku c6 nv iG hc hF=>
        rename_i b f t0 fy aS cs;obtain⟨cap,ik,rfl⟩:=ha _ _ _ hb;rcases lU with e|⟨new,ml,hE,u4,Qp,hV⟩
        ·exact absurd e YN
        ·have hkz:k*z≤cs.length:=by rw[c6];exact Nat.mul_le_mul_right _ Qt
         have hEE:ER c ρ F h z (es.take k++xs) (cs.take (k*z)++new):=ER.append (ER.take ⟨c6,nv,iG,hc⟩ Qt) (hE rfl);refine MF H K0 (y2:=.arr z true (es.take k++xs)) A hlen u5 fin hp hq dh hl hS hb hg hf ht eF ku hkz (.inr rfl) ik mM ml u4 ((hE rfl).fU ku) (.inl rfl) (fun hm qy c7 same hT KL lu BP Wb H8 Ve=>?_) hK;exact OR.Rl (by rw[List.length_append,List.length_take,Nat.min_eq_left Qt];exact KL) lu BP Wb H8 ku (hEE.mono hm) Ve
      ·exact hw.elim
     ·exact hw.elim
    ·exact hw.elim
   ·exact hw.elim
  ·rename_i n bytes z0 zx xs q hn Jz Gy Mz;split at hw
   ·rename_i hc;simp only[Bool.and_eq_true,beq_iff,bc]at hc;obtain⟨⟨⟨⟨aak,ta⟩,rfl⟩,KF⟩,pR,aiQ⟩:=hc;have size:∀{k:Nat},k<1048576→(k+1)*(bytes+1)≤1099511627776:=fun {k} hk=>size_le hk KF;have A:Fj E st xt elem zx bytes:=⟨L.desc _ _ hsd,⟨_,L.desc _ _ Qr⟩,L.size _ _ hn,L.bytes _ _ Jz,_,(L.zero _ _ Gy).1,aak⟩;obtain⟨hlen,aeN,YO,lU⟩:=qM H Mz (.inl rfl) (by simpa using pR) hx;obtain⟨o1,o2⟩:=aeN q (by simp);have u5:xs.length≠0:=by omega
    have aeO:∀{iE:Gh} {F1:Nat→Prop} {o1:Ob},Mem X iE F1 o1 c h→∀new,([q]=[]→ER c iE F1 h zx xs new)→new.length=xs.length*zx→(∀e∈xs,e.length=zx)→ee c iE F1 h (c8 xs [q]).flatten new→Mem X (cP iE c (some (.arr h.size zx xs.length))) F1 ((c,.cF zx xs [q])::o1) (c+1) (h.push (.cells new h.size h.size 0))∧∀t v,VR c iE F1 h t v→VR (c+1) (cP iE c (some (.arr h.size zx xs.length))) F1 (h.push (.cells new h.size h.size 0)) t v:=
     fun M1 new _ h1 h2 h3=>M1.Kf ⟨h1,h2,fun e he=>closed (YO e he),aeN,db.lP h3⟩ ta
    have aeP:∀{new:List Value},ee c ρ F h (c8 xs [q]).flatten new→new.length=xs.length*zx→new.all fU=true:=by
     intro new hV _;refine ee.aeI hV fun t ht=>?_;obtain⟨e,h1,h2⟩:=List.mem_flatten.1 ht;rcases List.mem_or_eq_of_mem_set (show e∈xs.set q.1 q.2 from h1)with h3|rfl
     ·have:=YO e h3 t h2;cases t<;>first|rfl |simp[fz]at this
     ·exact List.all_eq_true.1 aiQ t h2
    -- to an array that is there
    have main:∀{es:List (List TV)} {Mm:List (Nat×List TV)} {Sq:Ft} {S:Nat→Ft} {b f t0 fy aS m cap:Nat} {cs:List Value} {y:TO},MO X ρ F o c h S→look o m=some y→S m=(f,true)::Sq→ρ m=some (.arr b zx es.length)→h.get b=some (.cells cs f t0 fy)→h.dQ b=some (f,b,aS)→aS≤b→X.base≤f→cs.length=es.length*zx→es.length≤cap→sv= .slice (some ⟨b,0,some zx⟩) es.length cap→
     (∀e∈es,e.length=zx)→(∀e∈es,∀t∈e,nV t=true)→(∀p∈Mm,p.1<es.length∧p.2.length=zx)→db c ρ F h X.base Sq (c8 es Mm).flatten cs→es.length+xs.length<1048576→K (.tk c) ((c,.cF zx (es++xs) ((es.length+q.1,q.2)::Mm))::fY o m) (c+1) (.dI [m])→fv E X ρ F o c af h p K:=by
     intro es Mm Sq S b f t0 fy aS m cap cs y K0 hl hS hb hg hf ht eF c6 ik zj nv cH kr hc mM hK;subst zj;rcases lU with e|⟨new,ml,_,u4,Qp,hV⟩
     ·subst e;simp at u5
     ·refine KE H K0 (y2:=.cF zx (es++xs) ((es.length+q.1,q.2)::Mm)) A hlen u5 fin hp hq dh hl hS hb hg hf ht eF ta c6 ik (size mM) ml u4 (aeP hV u4) (.inl rfl) (fun hm qy c7 same hT KL lu BP Wb H8 Ve=>?_) hK;refine OR.Z4 (by rw[List.length_append];exact KL) lu BP Wb H8 ta ⟨by simp[c6,u4,Nat.add_mul],fun e he=>?_,fun e he=>?_,fun r hr=>?_,?_⟩
      ·rcases List.mem_append.1 he with h1|h1
       ·exact nv e h1
       ·exact Qp e h1
      ·rcases List.mem_append.1 he with h1|h1
       ·exact cH e h1
       ·exact closed (YO e h1)
      ·rcases List.mem_cons.1 hr with rfl |hr
       ·exact⟨by simp;omega,o2⟩
       ·have:=kr r hr;exact⟨by simp;omega,this.2⟩
      ·have:=(hc.bx H.wf same qy c7 hm hT).join (db.lP (base:=X.base) (hV.tn hm));rw[List.append_nil]at this;rw[Wa fun p hp=>(kr p hp).1,List.flatten_append];exact this
    split at hw
    ·rename_i z;split at hw
     ·rename_i hz;simp only[Bool.or_eq_true,beq_iff]at hz;obtain⟨mM,hK⟩:=hw;exact lf H A ta hlen lU fin hp hq dh H (fun _ _ h=>h) (fun _ h=>h) w0 (emp hz hs) (size mM) (fun e=>by subst e;simp at u5) (aeO H) flq hK
     ·exact hw.elim
    ·rename_i m;have MG:∀{y:TO},look o m=some y→B9 y=true→HQ y=0→Oo y=zx→(sv= .slice none 0 0∨∃b o cs,F b∧h.rd b=some cs∧0<Oo y∧o≤cs.length∧sv= .slice (some ⟨b,o,some (Oo y)⟩) 0 0)→xs.length<1048576→K (.tk c) ((c,.cF zx xs [q])::fY o m) (c+1) (.dI [m])→fv E X ρ F o c af h p K:=by
      intro y hl hy h0 hz zj mM hK;obtain⟨M1,k1⟩:=H.gone hl hy;refine lf H (ns:=[m]) (y1:=.cF zx xs [q]) (y2:=.cF zx xs [q]) A ta hlen lU fin hp hq dh M1 k1 (fun _ h=>h) (fun n y zS bC=>?_) (zj.imp id fun⟨b,o',cs,q1,q2,q3,q4,q5⟩=>⟨b,o',cs,q1,q2,q4,by rw[←hz];exact q5⟩) (size mM) (fun e=>by subst e;simp at u5) (aeO M1) flq hK;have pk:n≠m:=by simpa using bC
      exact⟨⟨y,by rw[dP,if_neg pk];exact zS⟩,bA _ _ pk⟩
     have RI:za 0 [q]=[q]:=by simp[za]
     split at hw
     ·rename_i z es hl;split at hw
      ·rename_i hz;rw[beq_iff]at hz;subst hz;obtain⟨mM,hK⟩:=hw;obtain⟨S,K0⟩:=H.ex;have hO:=K0.cC m _ hl;generalize hS:S m=Sm at hO;have H7:=hO.tk rfl hs;cases hO with
       |nil hb ku=>
        rcases H7 with⟨h0,_,zj⟩|⟨b,cap,h1,_⟩
        ·exact MG hl rfl h0 rfl zj (by simpa using mM) (by simpa[RI]using hK)
        ·rw[hb]at h1;cases h1
       |arr hb hg hf ht eF ku c6 nv iG hc hF=>
        rcases H7 with⟨_,h1,_⟩|⟨b',cap,h1,ik,zj⟩
        ·rw[hb]at h1;cases h1
        ·rw[hb]at h1;cases h1;exact main (Mm:=[]) K0 hl hS hb hg hf ht eF c6 ik zj nv (fun e he=>closed (iG e he)) (by simp) (db.lP (iP c6 nv hc)) mM hK
      ·exact hw.elim
     ·rename_i z es Mm hl;split at hw
      ·rename_i hz;rw[beq_iff]at hz;subst hz;obtain⟨mM,hK⟩:=hw;obtain⟨S,K0⟩:=H.ex;have hO:=K0.cC m _ hl;generalize hS:S m=Sm at hO;have H7:=hO.tk rfl hs;cases hO with
       |ib hb ku=>
        rcases H7 with⟨h0,_,zj⟩|⟨b,cap,h1,_⟩
        ·exact MG hl rfl h0 rfl zj (by simpa using mM) (by simpa[RI]using hK)
        ·rw[hb]at h1;cases h1
       |cF hb hg hf ht eF ku c6 nv cH kr hc=>
        rcases H7 with⟨_,h1,_⟩|⟨b',cap,h1,ik,zj⟩
        ·rw[hb]at h1;cases h1
        ·rw[hb]at h1;cases h1;exact main K0 hl hS hb hg hf ht eF c6 ik zj nv cH kr hc mM hK
      ·exact hw.elim
     ·exact hw.elim
    ·exact hw.elim
   ·exact hw.elim
  ·exact hw.elim
 ·exact hw.elim
end
section
variable {T E:Env} {X:Cx} {ρ:Gh} {F:Nat→Prop} {o:Ob} {c:Nat} {af:AF} {f:Fr} {h:ah} {p:Oper} {K:OK}
theorem ny:∀{ids:List (Option Nat)} {o:Ob} {n:Nat},(∀k:Nat,ids[k]? ≠some (some n))→look (kT ids o) n=look o n
 |[],o,n,_=>rfl
 |none::l,o,n,h=>ny (ids:=l) fun k=>by simpa using h (k+1)
 |some m::l,o,n,h=>by
  simp only[kT];rw[ny (ids:=l) fun k=>by simpa using h (k+1),dP,if_neg];intro e;subst e;exact h 0 rfl
theorem wR:∀{ids:List (Option Nat)} {n:Nat},n∉pf ids→∀k:Nat,ids[k]? ≠some (some n)
 |[],n,_,k=>by simp
 |none::l,n,h,k=>by
  cases k with
  |zero=>simp
  |succ k=>simpa using wR (ids:=l) h k
 |some m::l,n,h,k=>by
  simp only[pf,List.mem_cons,not_or]at h;cases k with
  |zero=>simp;exact fun e=>h.1 e.symm
  |succ k=>simpa using wR (ids:=l) h.2 k
theorem xY:∀(sh:List Nat) (o:Ob) (n:Nat) (y:TO),look o n=some y→∃y',look (M.ck sh o) n=some y'∧jC y y'
 |[],o,n,y,h=>⟨y,h,jC.refl _⟩
 |m::sh,o,n,y,h=>by
  obtain⟨y1,h1,h2⟩:=qF o m n y h;obtain⟨y2,h3,h4⟩:=xY sh _ n y1 h1;exact⟨y2,h3,h2.trans h4⟩
theorem iQ (H:Mem X ρ F o c h) (sh:List Nat):∃F',qK X ρ c h F o F' (M.ck sh o):=by
 obtain⟨F',h1,h2,h3⟩:=H.ck sh;exact⟨F',h1,h2,h3,xY sh o⟩
theorem xZ:∀{U:List Nat} {o:Ob} {n:Nat},n∉U→look (xS U o) n=look o n
 |[],o,n,_=>rfl
 |m::l,o,n,h=>by
  simp only[List.mem_cons,not_or]at h;simp only[xS];rw[xZ h.2,dP,if_neg h.1]
theorem RL (NX:wG E X) (H:Mem X ρ F o c h) {g:FuncId} {args:List TV} {dW:List Value} {st:Bool} (bz:st=true→Kl E g) (hw:vi st (VC E) g args o c K) (ha:ee c ρ F h args dW) (hp:aO E af p=none) (hq:bP E af p=none) (dh:bt E af p=none)
 (he:dk E X.base af p h=some (.enter g dW,h)):fv E X ρ F o c af h p K:=by
 obtain⟨sh,ids,U,Mo,o0,R,hvc,⟨kH,hO,hi⟩,hK⟩:=hw;simp only[Bool.and_eq_true]at hi;obtain⟨hi,hU⟩:=hi;obtain⟨F1,Sh⟩:=iQ H sh;have H1:=Sh.mem;obtain⟨S,K1⟩:=H1.ex;obtain⟨S1,Ns,D⟩:=hO.told H1 K1 hi hU;obtain⟨hand,RM⟩:=H1.hand K1 D;have hv0:=Hn (zf:=Ki o0) H1 _ _ _ kH (ha.tn Sh.bx);obtain⟨n0,v,h',ρ',F',r,o',c',ia,hR,MC,hr⟩:=hvc X.base _ F1 h S1 dW (NX.now H1) hand RM hv0;obtain⟨MM,k1,k2,k3⟩:=H1.merge K1 hi D MC;have fq:h.size≤h'.size:=MC.jb.size;have Wc:Raw ρ o h (sX ids c ρ ρ') (Ke (back ids c) o'++xS U (kT ids (ck sh o))) h' (pf ids++U):=fun n y hl bC=>by
  simp only[List.mem_append,not_or]at bC;have hn:=wR bC.1;have JB:=H.lt hl;obtain⟨y1,q1,q2⟩:=Sh.wk n y hl;have Oj:=k3 n y1 q1 hn bC.2;refine⟨⟨y1,?_⟩,zd hn JB,fun b hb=>?_⟩
  ·rw[kh];split
   ·rename_i y3 h3;obtain⟨k,y4,e1,_,_⟩:=wH (fun k k'=>At hi) h3;exfalso;unfold back at e1;split at e1
    ·rename_i m hm;subst e1;exact hn k hm
    ·omega
   ·rw[xZ bC.2,ny hn];exact q1
  ·obtain⟨QF,hh⟩:=H1.Fh K1 q1 hb;have hhb:¬iJ S1 o0 (hd h b):=Oj _ hh;have hg:=MC.jb.bx b QF hhb;refine⟨hg,fun cs hr=>?_⟩;obtain⟨r,a1,a2,a3⟩:=rd_some hr;obtain⟨f1,t1,zJ,ql⟩:=ef a3;obtain⟨cr,jI⟩:=bS a1;obtain⟨wi,p1,p2,od⟩:=eA a1;rw[ql]at od;cases od;have BQ:=MC.jb.bx r.1 (H.wf.lt jI) (by
    have:hd h r.1=hd h b:=by rw[cy jI,cy ql]
    show¬iJ S1 o0 (hd h r.1);rw[this];exact hhb)
   exact eu (bR (hg.trans ql) (BQ.trans jI)) a2 (az (hg.trans ql))
 refine⟨n0,⟨v,h',.dI h h'⟩,r.nu (back ids c),_,_,_,F',Z1 st o0 (pf ids++U),fun n hn=>?_,hK r o' c' hR,⟨MM,fun t x hx=>k1 t x (Sh.bx t x hx),fq,fun b hb=>MC.F0 b (Sh.FF b hb),fun b cs hb gW=>(MC.jb.c7 b (Sh.FF b hb)).trans gW⟩,k2 _ _ hr,?_⟩
 ·unfold eM;rw[hp,hq,dh,he];simp only
  rw[Az hn _ _ _ _ ia];rfl
 ·unfold Z1;split
  ·rename_i hs;exact .pY Wc (bz rfl _ _ _ _ _ _ ia)
  ·split
   ·rename_i Ep;rw[Ep]at Wc;exact .pZ Wc fun b hb=>MC.jb.bx b hb fun⟨k,y,q,_⟩=>by simp[look]at q
   ·exact .dI Wc
end
end Go.M
