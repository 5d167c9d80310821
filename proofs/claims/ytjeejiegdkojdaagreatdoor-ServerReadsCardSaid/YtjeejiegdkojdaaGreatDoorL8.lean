/-
  Part 8 of the library that the proof leans on.
-/
import Derived.Test.YtjeejiegdkojdaaGreatDoorL7
namespace Go.M
open Go
section
variable {T E:Env} {X:Cx} {ρ:Gh} {F:Nat→Prop} {o:Ob} {c:Nat} {af:AF} {f:Fr} {h:ab} {p:Oper} {K:OK}
theorem eZ.du (_:Mem X ρ F o c h) {v:TV} {x:Value} {h':ab} {ρ':Gh} {F':Nat→Prop} {o':Ob} {c':Nat} {ns:List Nat} (hp:aM E af p=none) (hq:bL E af p=none) (ha:bf E af p=none)
 (he:da E X.base af p h=some (.val x,h')) (hN:Nx X ρ F o c h ρ' F' o' c' h') (hv:VR c' ρ' F' h' v x) (hr:Raw ρ o h ρ' o' h' ns) (hK:K v o' c' (.du ns)):eZ E X ρ F o c af h p K:=by
 refine⟨0,⟨x,h',.du h h'⟩,v,o',c',ρ',F',.du ns,fun n _=>?_,hK,hN,hv,.du hr⟩;unfold eH;rw[hp,hq,ha,he]
theorem sR (H:Mem X ρ F o c h) {F1:Nat→Prop} {o1:Ob} (Sh:px X ρ c h F o F1 o1) {S:Nat→Ft} (K1:MO X ρ F1 o1 c h S) {m:Nat} {y y':TO} {h':ab} (hl:look o1 m=some y) {x:Nat} (hhm:x∈dk (S m))
 (same:∀z,z<h.size→hd h z≠x→h'.get z=h.get z):Raw ρ o h ρ (eY o1 m y') h' [m]:=by
 intro n yn hn bc;have nV:n≠m:=by simpa using bc
 obtain⟨y1,k1,k2⟩:=Sh.wk n yn hn;refine⟨⟨y1,by rw[eg,if_neg nV];exact k1⟩,rfl,fun b hb=>?_⟩;obtain⟨q1,q2⟩:=Sh.mem.CC K1 k1 hb;have Z9:hd h b≠x:=fun e=>by
  rw[e]at q2;exact nV (K1.fg n m y1 y _ k1 hl q2 hhm)
 exact⟨same b q1 Z9,fun cs hr=>jB H.wf same Z9 hr⟩
theorem Ew (_:Mem X ρ F o c h) {F1:Nat→Prop} {o1:Ob} (S:px X ρ c h F o F1 o1) {ρ':Gh} {F2:Nat→Prop} {o2:Ob} {c2:Nat} {h':ab} (M:Mem X ρ' F2 o2 c2 h') (hk:∀t x,VR c ρ F1 h t x→VR c2 ρ' F2 h' t x) (hF:∀b,F1 b→F2 b)
 (fL:h.size≤h'.size) (cZ:∀b cs,F b→h.rd b=some cs→h'.rd b=some cs):Nx X ρ F o c h ρ' F2 o2 c2 h':=
 ⟨M,fun t x hx=>hk t x (S.bl t x hx),fL,fun b hb=>hF b (S.FF b hb),cZ⟩
theorem CE {t:TV} {x:Value} (ho:xw t=true) (hv:VR c ρ F h t x):dY x=true:=by
 cases hv with
 |s hp=>cases x<;>simp[aC]at hp<;>rfl
 |tk hn p5=>cases x<;>simp[KA]at p5;rfl
 |wp hn p5=>cases x<;>simp[YD]at p5;rfl
 |j=>simp[xw]at ho
 |agg=>simp[xw]at ho
 |dF=>simp[xw]at ho
 |sv=>simp[xw]at ho
 |pv=>simp[xw]at ho
 |_=>rfl
theorem wz:∀{l:List TV} {m:List Value},l.all xw=true→dI c ρ F h l m→m.all dY=true
 |[],m,_,H=>by rw[H.bK];rfl
 |t::l,m,ho,H=>by
  simp only[List.all_cons,Bool.and_eq_true]at ho;obtain⟨v,m',rfl,h1,h2⟩:=H.aP;simp only[List.all_cons,Bool.and_eq_true];exact⟨CE ho.1 h1,wz ho.2 h2⟩
def Ot (E:Env) (base:Nat) (t:TypeId) (a v:Value) (h:ab):Option (lY×ab):=(E.size t).bind fun n=>(jc a).bind fun p=>
      bF (Nat.beq v.cells.size n&&v.cells.toList.all dY)<|(h.rd p.1).bind fun cs=>(c8 cs p.2 v.cells.toList).bind fun cs'=>(h.wr base p.1 cs').bind fun h'=>some (.val undef,h')
theorem Ey {α:Type} {v1 v2 v3 YI xs:List α} {p:Nat} (h:c8 v2 p xs=some YI):c8 (v1++(v2++v3)) (v1.length+p) xs=some (v1++(YI++v3)):=by
 obtain⟨s1,s2,s3⟩:=dv h;obtain⟨r,hr⟩:=lL (n:=v1.length+p) (l:=v1++(v2++v3)) (xs:=xs) (by simp;omega);rw[hr]
 congr 1
 rw[kx hr,kx h];rw[List.take_length_add_append,List.drop_length_add_append,List.take_append_of_le_length om,List.drop_append_of_le_length om,List.drop_append_of_le_length (by rw[List.length_drop];omega)];simp[List.append_assoc]
theorem cI.c8 {base:Nat} {S:Ft} {l xs r:List TV} {m ys:List Value} {p:Nat} (H:cI c ρ F h base S l m) (hs:M.c8 l p xs=some r) (hx:dI c ρ F h xs ys):∃m' S',M.c8 m p ys=some m'∧cI c ρ F h base S' r m'∧S'.Sublist S:=by
 obtain⟨s1,s2,s3⟩:=dv hs;have hlen:=H.len;obtain⟨m',hm⟩:=lL (n:=p) (l:=m) (xs:=ys) (by rw[←hx.1,←hlen];exact s1);obtain⟨S1,S2,S3,rfl,a1,a2,a3⟩:=H.part p xs.length;refine⟨m',S1++S3,hm,?_,(List.sublist_append_right S2 S3).append_left S1⟩;rw[kx hs,kx hm,←hx.1];exact a1.join ((cI.kU (base:=base) hx).join a3)
theorem xX {α:Type} {l:List α} {i:Nat} {e:α} (he:l[i]? =some e):l.set i e=l:=by
 refine List.ext_getElem? fun k=>?_;rw[List.getElem?_set];by_cases ek:i=k
 ·subst ek;rw[if_pos rfl,if_pos (List.getElem?_eq_some_iff.1 he).1,he]
 ·rw[if_neg ek]
theorem KU (L:cm T E) (H:Mem X ρ F o c h) {t:TypeId} {a v:TV} {av vv:Value} (hw:GU T t a v o c K) (ha:VR c ρ F h a av) (hv:VR c ρ F h v vv) (hp:aM E af p=none) (hq:bL E af p=none) (cW:bf E af p=none)
 (he:da E X.base af p h=Ot E X.base t av vv h):eZ E X ρ F o c af h p K:=by
 unfold GU at hw;split at hw
 ·exact hw.elim
 ·rename_i n hn;split at hw
  ·exact hw.elim
  ·rename_i hc;simp only[Bool.and_eq_true,beq_iff]at hc;obtain⟨⟨eN,hlen⟩,iY⟩:=hc;have rZ:=jl hv eN;have iu:=wz iY rZ;have fL:vv.cells.size=n:=by have:=rZ.1;simp only[Array.length_toList]at this;omega
   have go:∀b q cs cs' h',av= .pointer (some ⟨b,q,none⟩)→h.rd b=some cs→c8 cs q vv.cells.toList=some cs'→h.wr X.base b cs'=some h'→da E X.base af p h=some (.val undef,h'):=by
    rintro b q cs cs' h' rfl h1 h2 h3;rw[he];unfold Ot;simp only[L.size _ _ hn,Option.bind_some,jc,fL,iu,h1,h2,h3,bF];simp
   split at hw
   ·rename_i m q;split at hw
    ·rename_i cs hl;split at hw
     ·rename_i ua cQ;obtain⟨S,K0⟩:=H.ex;have hO:=K0.b7 m _ hl;generalize hS:S m=Sm at hO;cases hO with
      |cells hb hg oy hc=>
       rename_i Sq b aQ csv;cases ha with
       |ptr bX=>
        rw[hb]at bX;cases bX;have fP:=dD (bM hg hg) oy (aB hg);obtain⟨aaa,S',h1,h2,h3⟩:=hc.c8 cQ rZ;have UC:(b,true)∈S m:=by rw[hS];exact List.mem_cons_self
        have qL:=K0.eT m _ b hl (dU UC);have nW:=K0.Cm m _ hl;rw[hS]at nW;obtain⟨n1,n2⟩:=List.nodup_cons.1 nW;have iO:((b,true)::S').Sublist ((b,true)::Sq):=h3.cons_cons _;have W:=Cq (cs':=aaa) H.wf hg (bM hg hg);obtain⟨t',th',kO⟩:=W.self;obtain⟨M,hk⟩:=H.set K0 (y':=.cells ua) (S0:=(b,true)::S') hl UC (fun p hp=>by rw[hS];exact iO.subset hp) (show(dk _).Nodup from List.Sublist.nodup (iO.map Prod.fst) nW) W.size W.wf W.same W.dk fun hm cZ=>by
         refine .cells hb (aQ:=b) (cs':=aaa) ?_ (Nat.le_refl _) (h2.bl (T:=fun x=>x=b) H.wf W.same (fun _ h=>h) cZ hm fun x hx e=>?_)
         ·obtain⟨c0,bQ⟩:=bO W.dr;simp only at bQ;rw[kO]at bQ;rw[kO,Option.some.injEq,fi.cells.injEq]at*
          obtain⟨_,_,e3,e4⟩:=bQ;exact⟨rfl,rfl,e3,e4⟩
         ·subst e;exact n1 ((h3.map Prod.fst).subset hx)
        refine eZ.du H hp hq cW (go _ _ _ _ _ rfl fP h1 (Ja hg (bM hg hg) qL.1 qL.1)) (Ew H (.refl H) M hk (fun _ h=>h) (by rw[W.size];exact Nat.le_refl _) fun b' cs' bX kQ=>jB H.wf W.same (K0.apart m _ _ b' hl UC bX) kQ) (.j _)
         (sR H (.refl H) K0 hl (dU UC) W.same) hw
     ·exact hw.elim
    ·exact hw.elim
   ·rename_i m i q
    -- a row of which each cell may name an object
    have row:∀{y:TO} {b f t0 eX aQ z:Nat} {es:List (List TV)} {e e1:List TV} {Sq:Ft} {cs:List Value} {S:Nat→Ft},MO X ρ F o c h S→look o m=some y→S m=(f,true)::Sq→ρ m=some (.arr b z es.length)→h.get b=some (.cells cs f t0 eX)→h.dr b=some (f,b,aQ)→aQ≤b→X.base≤f→0<z→cs.length=es.length*z→
     (∀e∈es,e.length=z)→(∀e∈es,∀t∈e,mD t=true)→i<es.length→e.length=z→av= .pointer (some ⟨b,i*z+q,none⟩)→cI c ρ F h X.base Sq (es.set i e).flatten cs→c8 e q (aF v)=some e1→K .j (eY o m (.bx z es [(i,e1)])) c (.du [m])→eZ E X ρ F o c af h p K:=by
     intro y b f t0 eX aQ z es e e1 Sq cs S K0 hl hS hb hg hf oy dx hz hlen mj bT hi MX YJ hc cQ hw;obtain⟨S1,S2,S3,v1,v2,v3,rfl,rfl,a1,a2,a3⟩:=ia mj hi hc;obtain⟨YI,RD,h1,h2,h3⟩:=a2.c8 cQ rZ;have e1l:v1.length=i*z:=by
      have h1:=a1.len;obtain⟨e0,he0⟩:∃e0,es[i]? =some e0:=⟨_,List.getElem?_eq_getElem hi⟩;have:=(fh mj he0).2;rw[Nat.add_mul]at this;rw[←h1,List.length_take];omega
     have aab:c8 (v1++(v2++v3)) (i*z+q) vv.cells.toList=some (v1++(YI++v3)):=by rw[←e1l];exact Ey h1
     have fP:=dD hf oy (aB hg);have zw:(f,true)∈S m:=by rw[hS];exact List.mem_cons_self
     have qL:=K0.eT m _ f hl (dU zw);have nW:=K0.Cm m _ hl;rw[hS]at nW;obtain⟨n1,n2⟩:=List.nodup_cons.1 nW;have UD:(S1++(RD++S3)).Sublist (S1++(S2++S3)):=(h3.append_right S3).append_left S1;have iO:((f,true)::(S1++(RD++S3))).Sublist ((f,true)::(S1++(S2++S3))):=UD.cons_cons _;have Ou:X.base≤b:=by have:=H.wf.le _ _ _ _ _ hg;omega
     have W:=Cq (cs':=v1++(YI++v3)) H.wf hg hf;obtain⟨t',th',kO⟩:=W.self;have e1z:e1.length=z:=by rw[(dv cQ).2.1];exact MX
     have Gk:YI.length=v2.length:=(dv h1).2.1;obtain⟨M,hk⟩:=H.set K0 (y':=.bx z es [(i,e1)]) (S0:=(f,true)::(S1++(RD++S3))) hl zw (fun p hp=>by rw[hS];exact iO.subset hp) (show(dk _).Nodup from List.Sublist.nodup (iO.map Prod.fst) nW) W.size W.wf W.same W.dk fun hm cZ=>by
      refine .bx hb kO W.dr (Nat.le_refl _) dx hz (by rw[←hlen];simp[Gk]) mj bT (fun p hp=>?_) ((kG mj hi a1 h2 a3).bl (T:=fun x=>x=f) H.wf W.same (fun _ h=>h) cZ hm fun x hx e=>?_)
      ·simp only[List.mem_singleton]at hp;subst hp;exact⟨hi,e1z⟩
      ·subst e;exact n1 ((UD.map Prod.fst).subset hx)
     refine eZ.du H hp hq cW (go _ _ _ _ _ YJ fP aab (Ja hg hf Ou dx)) (Ew H (.refl H) M hk (fun _ h=>h) (by rw[W.size];exact Nat.le_refl _) fun b' cs' bX kQ=>jB H.wf W.same (K0.apart m _ _ b' hl zw bX) kQ) (.j _)
      (sR H (.refl H) K0 hl (dU zw) W.same) hw
    split at hw
    ·rename_i l qE gK;split at hw
     ·rename_i z es hl;obtain⟨e,mj,hw⟩:=hw;split at hw
      ·rename_i e1 cQ;obtain⟨F1,Sh,sv⟩:=qf (aF v) H;have H1:=Sh.mem;have zF:=sv l _ gK rZ;obtain⟨f1,f2⟩:=wy gK;obtain⟨b,z1,l1,hb,rfl⟩:=uw H1 hl rfl (Sh.bl _ _ ha);obtain⟨S,K1⟩:=H1.ex;have hO:=K1.b7 m _ hl;generalize hS:S m=Sm at hO;cases hO with
       |nil bX hz=>rw[hb]at bX;cases bX
       |arr bX hg hf oy dx hz cC vX zL lx hF=>
        rename_i f t0 eX aQ cs;rw[hb]at bX;cases bX;have hE:ER c ρ F1 h z es cs:=⟨cC,vX,zL,lx⟩;have fP:=dD hf oy (aB hg);have hi:i<es.length:=(List.getElem?_eq_some_iff.1 mj).1;have MX:=vX e (List.mem_of_getElem? mj);obtain⟨s1,s2,s3⟩:=dv cQ;have Ue:vv.cells.toList.length=l.length:=zF.1.symm;have hle:(i+1)*z≤es.length*z:=Nat.mul_le_mul_right z hi;rw[Nat.add_mul]at hle;obtain⟨ua,CD⟩:=lL (n:=i*z+q) (l:=cs) (xs:=vv.cells.toList) (by rw[cC,Ue];omega);obtain⟨t1,t2,t3⟩:=dv CD;have zw:(f,true)∈S m:=by rw[hS];exact List.mem_cons_self
        have qL:=K1.eT m _ f hl (dU zw);have Ou:X.base≤b:=by
         have:=H1.wf.le _ _ _ _ _ hg;omega
        have W:=Cq (cs':=ua) H.wf hg hf;obtain⟨t',th',kO⟩:=W.self;have Z8:ER c ρ F1 h z (es.set i e1) ua:=by
         refine hE.setAt (i:=i) (l:=e1) (fun j=>?_) (by simp) hi (by rw[s2,MX]) (fun t ht=>?_) t2 (fun j t v q1 q2=>?_) (fun k hk=>?_)
         ·rw[List.getElem?_set];by_cases ej:i=j
          ·subst ej;rw[if_pos rfl,if_pos rfl,if_pos hi]
          ·rw[if_neg ej,if_neg (fun e=>ej e.symm)]
         ·obtain⟨j,hj⟩:=List.getElem?_of_mem ht;rw[s3]at hj;split at hj
          ·exact f1 t (List.mem_of_getElem? hj)
          ·exact zL e (List.mem_of_getElem? mj) t (List.mem_of_getElem? hj)
         ·rw[s3]at q1;rw[t3]at q2;split at q1
          ·rename_i hj;rw[if_pos ⟨om,om⟩]at q2;exact zF.2 (j - q) t v q1 (by rw[←q2];congr 1;omega)
          ·rename_i hj;rw[if_neg om]at q2;exact lx i j e t v mj q1 q2
         ·rw[t3,if_neg];rw[Nat.add_mul]at hk;omega
        obtain⟨M,hk⟩:=H1.set K1 (y':=.arr z true (es.set i e1)) (S0:=[(f,true)]) hl zw (fun p hp=>by simp only[List.mem_singleton]at hp;subst hp;exact zw) (by simp[dk]) W.size W.wf W.same W.dk fun hm _=>
         OR.N6 (by simp[hb]) kO W.dr (Nat.le_refl _) dx hz (Z8.mono hm) (fun h=>by cases h)
        refine eZ.du H hp hq cW (go _ _ _ _ _ rfl fP CD (Ja hg hf Ou dx)) (Ew H Sh M hk (fun _ h=>h) (by rw[W.size];exact Nat.le_refl _) fun b' cs' bX kQ=>jB H.wf W.same (K1.apart m _ _ b' hl zw (Sh.FF _ bX)) kQ) (.j _)
         (sR H Sh K1 hl (dU zw) W.same) hw
      ·exact hw.elim
     ·exact hw.elim
    ·rename_i z es hl gK;obtain⟨e,mj,hw⟩:=hw;split at hw
     ·rename_i e1 cQ;obtain⟨b,z1,l1,hb,YJ⟩:=uw H hl rfl ha;obtain⟨S,K0⟩:=H.ex;have hO:=K0.b7 m _ hl;generalize hS:S m=Sm at hO;cases hO with
      |nil bX hz=>rw[hb]at bX;cases bX
      |arr bX hg hf oy dx hz cC vX zL lx hF=>
       rw[hb]at bX;cases bX;have hi:i<es.length:=(List.getElem?_eq_some_iff.1 mj).1;refine row K0 hl hS hb hg hf oy dx hz cC vX (fun e he t ht=>?_) hi (vX e (List.mem_of_getElem? mj)) YJ (by rw[xX mj];exact cI.kU (ik cC vX lx)) cQ hw;have:=zL e he t ht;unfold mD;split<;>first|rfl |exact this
     ·exact hw.elim
    ·rename_i z es op hl;obtain⟨b,z1,l1,hb,YJ⟩:=uw H hl rfl ha;obtain⟨S,K0⟩:=H.ex;have hO:=K0.b7 m _ hl;generalize hS:S m=Sm at hO;cases hO with
     |gF bX hz=>rw[hb]at bX;cases bX
     |bx bX hg hf oy dx hz cC vX bT jA lx=>
      rw[hb]at bX;cases bX;unfold IZ at hw;split at hw
      ·obtain⟨e,mj,hw⟩:=hw;split at hw
       ·rename_i e1 cQ;have hi:i<es.length:=(List.getElem?_eq_some_iff.1 mj).1;exact row K0 hl hS hb hg hf oy dx hz cC vX bT hi (vX e (List.mem_of_getElem? mj)) YJ (by rw[xX mj];exact lx) cQ hw
       ·exact hw.elim
      ·rename_i j ej;obtain⟨o1,o2⟩:=jA (j,ej) (by simp);by_cases YH:i=j
       ·subst YH;have hw:=hw.1 rfl;simp only at hw;split at hw
        ·rename_i e1 cQ;exact row K0 hl hS hb hg hf oy dx hz cC vX bT o1 o2 YJ lx cQ hw
        ·exact hw.elim
       ·obtain⟨_,_,hw⟩:=hw.2 YH;exact hw.elim
      ·obtain⟨_,_,hw⟩:=hw;exact hw.elim
    ·exact hw.elim
   ·exact hw.elim
def xY (E:Env) (base:Nat) (t:TypeId) (m k v:Value) (h:ab):Option (lY×ab):=(nv E base h t m k v).bind fun h'=>some (.val undef,h')
theorem mU (H:Mem X ρ F o c h) {F1:Nat→Prop} {o1:Ob} (Sh:px X ρ c h F o F1 o1) {S:Nat→Ft} (K1:MO X ρ F1 o1 c h S) {n:Nat} {y y':TO} {b clock clock':Nat} {ev ja:List MapEntry} {Sq S':Ft} (hl:look o1 n=some y) (hS:S n=(b,true)::Sq) (hg:h.get b=some (.map ev clock))
 (iO:∀p∈S',p∈Sq) (oQ:(dk S').Nodup) {x:Value} {v:TV} (hp:aM E af p=none) (hq:bL E af p=none) (cW:bf E af p=none) (he:da E X.base af p h=some (.val x,h.put b (.map ja clock'))) (hv:∀c ρ F h,VR c ρ F h v x)
 (vp:∀h',(∀t v,VR c ρ F1 h t v→VR c ρ F1 h' t v)→(∀b',b'<h.size→¬(hd h b'=b)→h'.get b'=h.get b')→(∀b cs,F1 b→h.rd b=some cs→h'.rd b=some cs)→h'.get b=some (.map ja clock')→(∀x∈dk S',x≠b)→OR c ρ F1 h' X.base n ((b,true)::S') y')
 (hK:K v (eY o1 n y') c (.du [n])):eZ E X ρ F o c af h p K:=by
 have H1:=Sh.mem;have UC:(b,true)∈S n:=by rw[hS];exact List.mem_cons_self
 have nW:=K1.Cm n _ hl;rw[hS]at nW;obtain⟨n1,n2⟩:=List.nodup_cons.1 nW;have oO:∀x∈dk S',x≠b:=fun x hx e=>by
  subst e;obtain⟨q,hq,e⟩:=List.mem_map.1 hx;exact n1 (List.mem_map.2 ⟨q,iO q hq,e⟩)
 have hdb:hd h b=b:=by simp[hd,hg]
 have dK:∀x,(h.put b (.map ja clock')).get x=if x=b then some (.map ja clock')else h.get x:=fun x=>ab.bJ _ _ _ _
 have same:∀x,x<h.size→hd h x≠b→(h.put b (.map ja clock')).get x=h.get x:=fun x _ hx=>by
  rw[dK,if_neg];intro e;subst e;exact hx hdb
 have Wi:∀x,hd (h.put b (.map ja clock')) x=hd h x:=fun x=>by
  by_cases e:x=b
  ·subst e;rw[hdb];unfold hd;rw[dK,if_pos rfl]
  ·unfold hd;rw[dK,if_neg e]
 have IG:Wf (h.put b (.map ja clock')):=by
  have II:=H.wf.lt hg;refine⟨fun x hx=>?_,fun x cs f t th hx=>?_⟩
  ·rw[ab.size_put]at hx;rw[dK,if_neg om];exact H.wf.high x hx
  ·rw[dK]at hx;split at hx
   ·cases hx
   ·exact H.wf.le _ _ _ _ _ hx
 obtain⟨M,hk⟩:=H1.set K1 (y':=y') (S0:=(b,true)::S') hl UC (fun p hp=>by
  rw[hS];rcases List.mem_cons.1 hp with rfl |hp
  ·exact List.mem_cons_self
  ·exact List.mem_cons_of_mem _ (iO p hp)) (List.nodup_cons.2 ⟨fun hx=>oO b hx rfl,oQ⟩) (ab.size_put _ _ _) IG same Wi fun hm cZ=>
  vp _ hm same cZ (by rw[dK,if_pos rfl]) oO
 exact eZ.du H hp hq cW he (Ew H Sh M hk (fun _ h=>h) (by rw[ab.size_put];exact Nat.le_refl _) fun b' cs' bX kQ=>jB H.wf same (K1.apart n _ _ b' hl UC (Sh.FF _ bX)) kQ) (hv _ _ _ _)
  (sR H Sh K1 hl (dU UC) same) hK
theorem map_set (H:Mem X ρ F o c h) {F1:Nat→Prop} {o1:Ob} (Sh:px X ρ c h F o F1 o1) {n kn:Nat} {es Z7:List (Value×TV)} {b clock clock':Nat} {ev ja:List MapEntry} (hl:look o1 n=some (.map kn es)) (hb:ρ n=some (.dw b)) (hg:h.get b=some (.map ev clock))
 (hE:uA c ρ F1 h kn Z7 ja) (bW:vo ja clock') {x:Value} {v:TV} (hp:aM E af p=none) (hq:bL E af p=none) (cW:bf E af p=none) (he:da E X.base af p h=some (.val x,h.put b (.map ja clock'))) (hv:∀c ρ F h,VR c ρ F h v x)
 (hK:K v (eY o1 n (.map kn Z7)) c (.du [n])):eZ E X ρ F o c af h p K:=by
 obtain⟨S,K1⟩:=Sh.mem.ex;have hO:=K1.b7 n _ hl;generalize hS:S n=Sm at hO;cases hO with
 |map bX kO rN lx Nq=>
  rw[hb]at bX;cases bX;exact mU H Sh K1 (S':=[]) hl hS hg (by simp) (by simp[dk]) hp hq cW he hv (fun h' hm same cZ Ov _=>.map hb Ov hE.1 (fun i e e' q1 q2=>let⟨r1,r2,r3,r4⟩:=hE.2 i e e' q1 q2;⟨r1,r2,r3,hm _ _ r4⟩) bW) hK
end
section
variable {T E:Env} {X:Cx} {ρ:Gh} {F:Nat→Prop} {o:Ob} {c:Nat} {af:AF} {f:Fr} {h:ab} {p:Oper} {K:OK}
theorem xZ {kd:TypeDesc} {k:Value} {n:Nat} (hk:kindOk kd k n=true):∀{es:List (Value×TV)} {bS:List MapEntry} (i:Nat),uA c ρ F h n es bS→
 (Instr.findNow kd k bS i=some none∧(∀v,dG es k v=es++[(k,v)])∧rG es k=es)∨
 ∃j x,j<es.length∧Instr.findNow kd k bS i=some (some (i+j,x))∧(∀v,dG es k v=es.set j (k,v))∧rG es k=es.eraseIdx j
 |[],bS,i,H=>by rw[H.bK];exact .inl ⟨rfl,fun _=>rfl,rfl⟩
 |e::es,bS,i,H=>by
  obtain⟨e',m,rfl,h1,h2,h3,h4,h5⟩:=H.aP;unfold Instr.findNow;rw[h1,jN hk h2.2];cases hq:qI k e.1 with
  |true=>exact .inr ⟨0,e'.val,by simp,rfl,fun v=>by simp[dG,hq],by simp[rG,hq]⟩
  |false=>
   simp only
   rcases xZ hk (i+1) h5 with⟨q1,q2,q3⟩|⟨j,x,q0,q1,q2,q3⟩
   ·exact .inl ⟨q1,fun v=>by simp[dG,hq,q2],by simp[rG,hq,q3]⟩
   ·exact .inr ⟨j+1,x,by simp;omega,by rw[q1];congr 3;omega,fun v=>by simp[dG,hq,q2],by simp[rG,hq,q3]⟩
theorem uA.mono {kn c':Nat} {ρ':Gh} {F':Nat→Prop} {h':ab} {es:List (Value×TV)} {ev:List MapEntry} (H:uA c ρ F h kn es ev) (hm:∀t v,VR c ρ F h t v→VR c' ρ' F' h' t v):uA c' ρ' F' h' kn es ev:=
 ⟨H.1,fun i e e' q1 q2=>let⟨r1,r2,r3,r4⟩:=H.2 i e e' q1 q2;⟨r1,r2,r3,hm _ _ r4⟩⟩
theorem uA.wC {kn:Nat} {es:List (Value×TV)} {ev:List MapEntry} (H:uA c ρ F h kn es ev) {k:Value} {v:TV} {x:Value} (hk:0<kn∧a6 k=kn) (hf:DY v=true) (hv:VR c ρ F h v x) (b:Nat):uA c ρ F h kn (es++[(k,v)]) (ev++[{key:=k,val:=x,born:=b}]):=by
 refine⟨by simp[H.1],fun i e e' q1 q2=>?_⟩;by_cases hi:i<es.length
 ·rw[List.getElem?_append_left hi]at q1;rw[List.getElem?_append_left (by rw[←H.1];exact hi)]at q2;exact H.2 i e e' q1 q2
 ·rw[List.getElem?_append_right om]at q1;rw[List.getElem?_append_right (by rw[←H.1];omega),←H.1]at q2;have:i - es.length=0:=by
   rcases Nat.eq_zero_or_pos (i - es.length)with h0|h0
   ·exact h0
   ·rw[List.getElem?_eq_none (by simp;omega)]at q1;cases q1
  rw[this]at q1 q2;simp at q1 q2;subst q1;subst q2;exact⟨rfl,hk,hf,hv⟩
theorem uA.set {kn:Nat} {es:List (Value×TV)} {ev:List MapEntry} (H:uA c ρ F h kn es ev) {k:Value} {v:TV} {x:Value} (hk:0<kn∧a6 k=kn) (hf:DY v=true) (hv:VR c ρ F h v x) (j:Nat):uA c ρ F h kn (es.set j (k,v)) (ev.modify j fun e=>{e with key:=k,val:=x}):=by
 refine⟨by simp[H.1],fun i e e' q1 q2=>?_⟩;rw[List.getElem?_set]at q1;rw[List.getElem?_modify]at q2;by_cases e0:j=i
 ·subst e0;rw[if_pos rfl]at q1;split at q1
  ·cases q1;cases hq:ev[j]? with
   |none=>rw[hq]at q2;simp at q2
   |some a=>rw[hq]at q2;simp at q2;subst q2;exact⟨rfl,hk,hf,hv⟩
  ·cases q1
 ·rw[if_neg e0]at q1;cases hq:ev[i]? with
  |none=>rw[hq]at q2;simp at q2
  |some a=>
   rw[hq]at q2;simp[e0]at q2;subst q2;exact H.2 i e _ q1 hq
theorem uA.erase {kn:Nat} {es:List (Value×TV)} {ev:List MapEntry} (H:uA c ρ F h kn es ev) (j:Nat):uA c ρ F h kn (es.eraseIdx j) (ev.eraseIdx j):=by
 refine⟨by rw[List.length_eraseIdx,List.length_eraseIdx,H.1],fun i e e' q1 q2=>?_⟩;rw[List.getElem?_eraseIdx]at q1 q2;split at q1
 ·rename_i bH;rw[if_pos bH]at q2;exact H.2 _ _ _ q1 q2
 ·rename_i bH;rw[if_neg bH]at q2;exact H.2 _ _ _ q1 q2
theorem vo.wC {ev:List MapEntry} {clock:Nat} (H:vo ev clock) {k v:Value}:vo (ev++[{key:=k,val:=v,born:=clock}]) (clock+1):=by
 refine⟨fun x hx=>?_,?_⟩
 ·rcases List.mem_append.1 hx with hx|hx
  ·have:=H.1 x hx;omega
  ·simp at hx;subst hx;simp
 ·rw[List.map_append,List.nodup_append];refine⟨H.2,by simp,fun a ha b hb=>?_⟩;obtain⟨x,hx,rfl⟩:=List.mem_map.1 ha;simp at hb;subst hb;have:=H.1 x hx;omega
theorem vo.modify {ev:List MapEntry} {clock:Nat} (H:vo ev clock) (j:Nat) {f:MapEntry→MapEntry} (hf:∀e,(f e).born=e.born):vo (ev.modify j f) clock:=by
 have h1:(ev.modify j f).map (·.born)=ev.map (·.born):=by
  apply List.ext_getElem?;intro i;rw[List.getElem?_map,List.getElem?_map,List.getElem?_modify];cases ev[i]? with
  |none=>simp
  |some e=>by_cases h:j=i<;>simp[h,hf]
 refine⟨fun x hx=>?_,by rw[h1];exact H.2⟩;have:x.born∈(ev.modify j f).map (·.born):=List.mem_map.2 ⟨x,hx,rfl⟩;rw[h1]at this;obtain⟨y,hy,e⟩:=List.mem_map.1 this;rw[←e];exact H.1 y hy
theorem vo.erase {ev:List MapEntry} {clock:Nat} (H:vo ev clock) (j:Nat):vo (ev.eraseIdx j) clock:=
 ⟨fun x hx=>H.1 x (List.mem_of_mem_eraseIdx hx),((List.eraseIdx_sublist ev j).map _).nodup H.2⟩
theorem KW {v:TV} {x:Value} (hv:VR c ρ F h v x) (ho:okV v=true):di v=fH x:=by
 cases hv with
 |j=>simp[okV,xw]at ho
 |dF=>simp[okV,xw]at ho
 |sv=>simp[okV,xw]at ho
 |pv=>simp[okV,xw]at ho
 |s hp=>cases x<;>first|rfl |simp[aC]at hp
 |tk _ h1=>cases x<;>first|rfl |simp[KA]at h1
 |wp _ h1=>cases x<;>first|rfl |simp[YD]at h1
 |_=>rfl
theorem ya {kd:TypeDesc} {k:Value} {n:Nat} {v w:TV} (hk:kindOk kd k n=true):∀{es:List (Value×TV)},dG (dG es k w) k v=dG es k v
 |[]=>by simp[dG,sQ hk]
 |e::es=>by
  cases hq:qI k e.1 with
  |true=>simp[dG,hq,sQ hk]
  |false=>simp[dG,hq,ya hk]
theorem iN.kN {base:Nat} {kd:TypeDesc} {k:Value} {n:Nat} (hk:kindOk kd k n=true) (tV:0<n∧a6 k=n) {v:TV} {x:Value} (hv:cI c ρ F h base [] (aF v) x.cells.toList) (ha:di v=fH x) (b:Nat):∀{M:List (Value×TV)} {ev:List MapEntry} {S:Ft} (i:Nat),iN c ρ F h base n S M ev→
 (Instr.findNow kd k ev i=some none∧iN c ρ F h base n S (dG M k v) (ev++[{key:=k,val:=x,born:=b}]))∨
 ∃j y S',Instr.findNow kd k ev i=some (some (i+j,y))∧iN c ρ F h base n S' (dG M k v) (ev.modify j fun e=>{e with key:=k,val:=x})∧S'.Sublist S
 |[],ev,S,i,H=>by
  cases H;exact .inl ⟨rfl,iN.cons (e:=(k,v)) (S:=[]) (S':=[]) rfl tV ha hv .nil⟩
 |e::es,ev,S,i,H=>by
  cases H with
  |cons ml iH wZ uX hl=>
   rename_i Sa Sb e' m;unfold Instr.findNow;rw[ml,jN hk iH.2];cases hq:qI k e.1 with
   |true=>
    refine .inr ⟨0,e'.val,Sb,rfl,?_,List.sublist_append_right _ _⟩;simp only[dG,hq];exact iN.cons (e:=(k,v)) (S:=[]) rfl tV ha hv hl
   |false=>
    simp only[dG,hq];rcases iN.kN hk tV hv ha b (i+1) hl with⟨q1,q2⟩|⟨j,y,S',q1,q2,q3⟩
    ·exact .inl ⟨q1,.cons ml iH wZ uX q2⟩
    ·exact .inr ⟨j+1,y,Sa++S',by rw[q1];congr 3;omega,.cons ml iH wZ uX q2,q3.append_left _⟩
theorem iN.del {base:Nat} {kd:TypeDesc} {k:Value} {n:Nat} (hk:kindOk kd k n=true):∀{M:List (Value×TV)} {ev:List MapEntry} {S:Ft} (i:Nat),iN c ρ F h base n S M ev→
 (Instr.findNow kd k ev i=some none∧rG M k=M)∨
 ∃j y S',Instr.findNow kd k ev i=some (some (i+j,y))∧iN c ρ F h base n S' (rG M k) (ev.eraseIdx j)∧S'.Sublist S
 |[],ev,S,i,H=>by cases H;exact .inl ⟨rfl,rfl⟩
 |e::es,ev,S,i,H=>by
  cases H with
  |cons ml iH wZ uX hl=>
   rename_i Sa Sb e' m;unfold Instr.findNow;rw[ml,jN hk iH.2];cases hq:qI k e.1 with
   |true=>exact .inr ⟨0,e'.val,Sb,rfl,by simp only[rG,hq];exact hl,List.sublist_append_right _ _⟩
   |false=>
    simp only[rG,hq];rcases iN.del hk (i+1) hl with⟨q1,q2⟩|⟨j,y,S',q1,q2,q3⟩
    ·exact .inl ⟨q1,by rw[q2]⟩
    ·exact .inr ⟨j+1,y,Sa++S',by rw[q1];congr 3;omega,.cons ml iH wZ uX q2,q3.append_left _⟩
theorem Ez {k:Value} {e:Value×TV}:∀{es:List (Value×TV)},e∈rG es k→e∈es
 |[],h=>by simp[rG]at h
 |a::l,h=>by
  unfold rG at h;split at h
  ·exact List.mem_cons_of_mem _ h
  ·rcases List.mem_cons.1 h with rfl |h
   ·exact List.mem_cons_self
   ·exact List.mem_cons_of_mem _ (Ez h)
theorem zQ (L:cm T E) (H:Mem X ρ F o c h) {t:TypeId} {m k v:TV} {mv kv vv:Value} (hw:rH T t m k v o c K) (hm:VR c ρ F h m mv) (hk:VR c ρ F h k kv) (hv:VR c ρ F h v vv) (hp:aM E af p=none) (hq:bL E af p=none) (cW:bf E af p=none)
 (he:da E X.base af p h=xY E X.base t mv kv vv h):eZ E X ρ F o c af h p K:=by
 unfold rH at hw;split at hw
 ·rename_i kt elem hd;split at hw
  ·rename_i kd zP iH;have hkv:=hk.dj.1;subst hkv;split at hw
   ·rename_i n;have Wr:∀{kn},kindOk kd kv kn=true→0<kn∧a6 kv=kn:=fun {kn} kz=>by
     unfold kindOk at kz;simp only[Bool.and_eq_true,beq_iff,aS]at kz;exact⟨kz.1.1,kz.2⟩
    have run:∀{kn b clock:Nat} {ev ja:List MapEntry} {cl1:Nat},kindOk kd kv kn=true→mv= .map (some b)→X.base≤b→h.get b=some (.map ev clock)→
     (∃i,Instr.findNow kd kv ev 0=some i∧(match i with|some (i,_)=>ja=(ev.modify i fun e=>{e with key:=kv,val:=vv})∧cl1=clock|none=>ja=ev++[{key:=kv,val:=vv,born:=clock}]∧cl1=clock+1))→
     da E X.base af p h=some (.val undef,h.put b (.map ja cl1)):=by
     rintro kn b clock ev ja cl1 kz rfl bt hg ⟨i,hi,h2⟩;obtain⟨Dr,KR⟩:=jD kz;rw[he];unfold xY nv;rw[L.desc _ _ hd];simp only[Option.bind_some,L.desc _ _ iH];rw[aG.2 bt,Dr,KR,hg];simp only[Bool.and_self,bF,hi,Option.bind_some];cases i with
     |none=>obtain⟨rfl,rfl⟩:=h2;rfl
     |some i=>obtain⟨rfl,rfl⟩:=h2;rfl
    -- entries that name objects
    have named:∀{S:Nat→Ft} {y:TO} {kn b clock:Nat} {ev:List MapEntry} {es M:List (Value×TV)} {Sq:Ft},MO X ρ F o c h S→look o n=some y→S n=(b,true)::Sq→ρ n=some (.dw b)→h.get b=some (.map ev clock)→vo ev clock→kindOk kd kv kn=true→okV v=true→mv= .map (some b)→
     (∀e∈es,∀t∈aF e.2,mD t=true)→iN c ρ F h X.base kn Sq M ev→dG M kv v=dG es kv v→K .j (eY o n (.eL kn es [(kv,v)])) c (.du [n])→eZ E X ρ F o c af h p K:=by
     intro S y kn b clock ev es M Sq K0 hl hS hb hg bW kz eN hmv bT hE hMe hw;have nW:=K0.Cm n _ hl;rw[hS]at nW;obtain⟨n1,n2⟩:=List.nodup_cons.1 nW;have bt:X.base≤b:=(K0.eT n _ b hl (by rw[hS];exact List.mem_cons_self)).1;rcases hE.kN kz (Wr kz) (cI.kU (jl hv eN)) (KW hv eN) clock 0 with⟨q1,q2⟩|⟨j,x,S',q1,q2,q3⟩
     ·rw[hMe]at q2;exact mU H (.refl H) K0 hl hS hg (fun _ h=>h) n2 hp hq cW (run kz hmv bt hg ⟨_,q1,rfl,rfl⟩) (fun _ _ _ _=>.j _) (fun h' hm same cZ Ov oO=>.eL hb Ov bT (q2.bl (T:=fun x=>x=b) H.wf same (fun _ h=>h) cZ hm oO) bW.wC) hw
     ·rw[hMe]at q2;exact mU H (.refl H) K0 hl hS hg (fun _ h=>q3.subset h) ((q3.map Prod.fst).nodup n2) hp hq cW (run (ja:=ev.modify j fun e=>{e with key:=kv,val:=vv}) (cl1:=clock) kz hmv bt hg ⟨_,q1,by simp,rfl⟩) (fun _ _ _ _=>.j _) (fun h' hm same cZ Ov oO=>.eL hb Ov bT (q2.bl (T:=fun x=>x=b) H.wf same (fun _ h=>h) cZ hm oO) (bW.modify j fun _=>rfl)) hw
    split at hw
    ·rename_i kn es v' hl Aa;split at hw
     ·rename_i kz;have eN:okV v=true:=by
       cases v<;>simp[NS,cZ]at Aa<;>rfl
      obtain⟨F1,Sh,sv⟩:=RF H v eN;obtain⟨vt,gK⟩:=sv v' vv Aa hv;obtain⟨S,K0⟩:=H.ex;have hO:=K0.b7 n _ hl;have Q4:=fun x hx=>K0.eT n _ x hl hx;generalize S n=Sm at hO Q4;cases hO with
      |map hb hg hlen hc bW=>
       rename_i b clock ev;have hE:uA c ρ F1 h kn es ev:=uA.mono ⟨hlen,hc⟩ Sh.bl;cases hm with
       |mp bX=>
        rw[hb]at bX;cases bX;obtain⟨y1,k1,k2⟩:=Sh.wk n _ hl;have:y1= .map kn es:=by cases y1<;>simp[ee]at k2;obtain⟨rfl,rfl⟩:=k2;rfl
        subst this;have bt:X.base≤b:=(Q4 b List.mem_cons_self).1;rcases xZ kz 0 hE with⟨q1,q2,q3⟩|⟨j,x,q0,q1,q2,q3⟩
        ·refine map_set H Sh k1 hb hg (hE.wC (Wr kz) gK vt clock) bW.wC hp hq cW (run kz rfl bt hg ⟨_,q1,rfl,rfl⟩) (fun _ _ _ _=>.j _) ?_;rw[q2]at hw;exact hw
        ·refine map_set H Sh k1 hb hg (hE.set (Wr kz) gK vt j) (bW.modify j fun _=>rfl) hp hq cW (run kz rfl bt hg ⟨_,q1,by simp,rfl⟩) (fun _ _ _ _=>.j _) ?_;rw[q2]at hw;exact hw
     ·exact hw.elim
    ·rename_i kn es hl Aa;split at hw
     ·rename_i UE;simp only[Bool.and_eq_true]at UE;obtain⟨kz,eN⟩:=UE;obtain⟨S,K0⟩:=H.ex;have hO:=K0.b7 n _ hl;generalize hS:S n=Sm at hO;cases hO with
      |map hb hg hlen hc bW=>
       cases hm with
       |mp bX=>
        rw[hb]at bX;cases bX;have rZ:=CR.Wj (base:=X.base) hlen hc;exact named K0 hl hS hb hg bW kz eN rfl (rZ.ZN _ _ _ rfl) (iN.rM rZ _ _ _ rfl) rfl hw
     ·exact hw.elim
    ·rename_i kn es hl;split at hw
     ·rename_i UE;simp only[Bool.and_eq_true]at UE;obtain⟨kz,eN⟩:=UE;obtain⟨S,K0⟩:=H.ex;have hO:=K0.b7 n _ hl;generalize hS:S n=Sm at hO;cases hO with
      |eL hb hg bT hc bW=>
       cases hm with
       |mp bX=>
        rw[hb]at bX;cases bX;exact named K0 hl hS hb hg bW kz eN rfl bT hc rfl hw
     ·exact hw.elim
    ·rename_i kn es k' w hl;split at hw
     ·rename_i UE;simp only[Bool.and_eq_true]at UE;obtain⟨kz,eN⟩:=UE;obtain⟨rfl,hw⟩:=hw;obtain⟨S,K0⟩:=H.ex;have hO:=K0.b7 n _ hl;generalize hS:S n=Sm at hO;cases hO with
      |eL hb hg bT hc bW=>
       cases hm with
       |mp bX=>
        rw[hb]at bX;cases bX;exact named K0 hl hS hb hg bW kz eN rfl bT hc (ya kz) hw
     ·exact hw.elim
    ·exact hw.elim
   ·exact hw.elim
  ·exact hw.elim
 ·exact hw.elim
theorem Hn (L:cm T E) (H:Mem X ρ F o c h) {t:TypeId} {m k:TV} {mv kv:Value} (hw:Cc T t m k o c K) (hm:VR c ρ F h m mv) (hk:VR c ρ F h k kv) (hp:aM E af p=none) (hq:bL E af p=none) (cW:bf E af p=none)
 (he:da E X.base af p h=(r9 E X.base h t mv kv).bind fun r=>some (.val r.1,r.2)):eZ E X ρ F o c af h p K:=by
 have RI:∀(c:Nat) (ρ:Gh) (F:Nat→Prop) (h:ab),VR c ρ F h (.dF []) (.tuple #[]):=fun _ _ _ _=>.iM .nil;unfold Cc at hw;split at hw
 ·rename_i kt elem hd;split at hw
  ·rename_i kd zP n iH;have hkv:=hk.dj.1;subst hkv;have run:∀{kn b clock:Nat} {ev ja:List MapEntry},kindOk kd kv kn=true→mv= .map (some b)→X.base≤b→h.get b=some (.map ev clock)→(∃i,Instr.findNow kd kv ev 0=some i∧ja=(match i with|some (i,_)=>ev.eraseIdx i|none=>ev))→da E X.base af p h=some (.val (.tuple #[]),h.put b (.map ja clock)):=by
    rintro kn b clock ev ja kz rfl bt hg ⟨i,hi,rfl⟩;obtain⟨Dr,KR⟩:=jD kz;rw[he];unfold r9;rw[L.desc _ _ hd];simp only[Option.bind_some,L.desc _ _ iH];rw[aG.2 bt,Dr,KR,hg];simp only[Bool.and_self,bF,hi,Option.bind_some];cases i<;>rfl
   obtain⟨S,K0⟩:=H.ex;split at hw
   ·rename_i kn es hl;split at hw
    ·rename_i kz;have hO:=K0.b7 n _ hl;have Q4:=fun x hx=>K0.eT n _ x hl hx;generalize S n=Sm at hO Q4;cases hO with
     |map hb hg hlen hc bW=>
      rename_i b clock ev;have hE:uA c ρ F h kn es ev:=⟨hlen,hc⟩;cases hm with
      |mp bX=>
       rw[hb]at bX;cases bX;have bt:X.base≤b:=(Q4 b List.mem_cons_self).1;rcases xZ kz 0 hE with⟨q1,q2,q3⟩|⟨j,x,q0,q1,q2,q3⟩
       ·refine map_set H (.refl H) hl hb hg hE bW hp hq cW (run (ja:=ev) kz rfl bt hg ⟨_,q1,rfl⟩) RI ?_;rw[q3]at hw;exact hw
       ·refine map_set H (.refl H) hl hb hg (hE.erase j) (bW.erase j) hp hq cW (run (ja:=ev.eraseIdx j) kz rfl bt hg ⟨_,q1,by simp⟩) RI ?_;rw[q3]at hw;exact hw
    ·exact hw.elim
   ·rename_i kn es hl;split at hw
    ·rename_i kz;have hO:=K0.b7 n _ hl;have Q4:=fun x hx=>K0.eT n _ x hl hx;have nW:=K0.Cm n _ hl;generalize hS:S n=Sm at hO Q4 nW;cases hO with
     |eL hb hg bT hc bW=>
      rename_i Sq b clock ev;cases hm with
      |mp bX=>
       rw[hb]at bX;cases bX;have bt:X.base≤b:=(Q4 b List.mem_cons_self).1;obtain⟨n1,n2⟩:=List.nodup_cons.1 nW;have hE:iN c ρ F h X.base kn Sq es ev:=hc;rcases hE.del kz 0 with⟨q1,q2⟩|⟨j,x,S',q1,q2,q3⟩
       ·rw[q2]at hw;exact mU H (.refl H) K0 hl hS hg (fun _ h=>h) n2 hp hq cW (run (ja:=ev) kz rfl bt hg ⟨_,q1,rfl⟩) RI (fun h' hm same cZ Ov oO=>.eL hb Ov bT (hE.bl (T:=fun x=>x=b) H.wf same (fun _ h=>h) cZ hm oO) bW) hw
       ·exact mU H (.refl H) K0 hl hS hg (fun _ h=>q3.subset h) ((q3.map Prod.fst).nodup n2) hp hq cW (run (ja:=ev.eraseIdx j) kz rfl bt hg ⟨_,q1,by simp⟩) RI (fun h' hm same cZ Ov oO=>.eL hb Ov (fun e he=>bT e (Ez he)) (q2.bl (T:=fun x=>x=b) H.wf same (fun _ h=>h) cZ hm oO) (bW.erase j)) hw
    ·exact hw.elim
   ·exact hw.elim
  ·exact hw.elim
 ·exact hw.elim
theorem Az (H:Mem X ρ F o c h) {t:TypeId} {n kn:Nat} {y:TO} {mv:Value} (hl:look o n=some y) (hy:(∃es,y= .map kn es)∨∃es op,y= .eL kn es op) (hw:K (.dF []) (eY o n (.map kn [])) c (.du [n])) (hm:VR c ρ F h (.mp n) mv) (hp:aM E af p=none) (hq:bL E af p=none) (cW:bf E af p=none)
 (hd:(E.desc t).isSome=true) (he:da E X.base af p h=((E.desc t).bind fun _=>qU E X.base h t mv).bind fun r=>some (.val r.1,r.2)):eZ E X ρ F o c af h p K:=by
 obtain⟨S,K0⟩:=H.ex;have hO:=K0.b7 n _ hl;have Q4:=fun x hx=>K0.eT n _ x hl hx;obtain⟨d,hd⟩:=Option.isSome_iff_exists.1 hd;have main:∀{b clock:Nat} {ev:List MapEntry} {Sq:Ft},S n=(b,true)::Sq→ρ n=some (.dw b)→h.get b=some (.map ev clock)→eZ E X ρ F o c af h p K:=by
  intro b clock ev Sq hS hb hg;cases hm with
  |mp bX=>
   rw[hb]at bX;cases bX;have bt:X.base≤b:=(Q4 b (by rw[hS];exact List.mem_cons_self)).1;refine mU H (.refl H) K0 (S':=[]) (ja:=[]) (clock':=clock) hl hS hg (by simp) (by simp[dk]) hp hq cW ?_ (fun _ _ _ _=>.iM .nil) (fun h' hm same cZ Ov oO=>.map hb Ov rfl (fun i e e' q=>by simp at q) ⟨by simp,by simp⟩) hw;rw[he,hd];unfold qU;simp only[Option.bind_some];rw[aG.2 bt,hg];rfl
 generalize hS:S n=Sm at hO;rcases hy with⟨es,rfl⟩|⟨es,op,rfl⟩
 ·cases hO with
  |map hb hg hlen hc bW=>exact main hS hb hg
 ·cases hO with
  |eL hb hg bT hc bW=>exact main hS hb hg
theorem ER.take {z:Nat} {es:List (List TV)} {cs:List Value} (A:ER c ρ F h z es cs) {i:Nat} (hi:i≤es.length):ER c ρ F h z (es.take i) (cs.take (i*z)):=by
 have hle:i*z≤es.length*z:=Nat.mul_le_mul_right z hi;refine⟨by rw[List.length_take,List.length_take,A.len,Nat.min_eq_left hi,Nat.min_eq_left hle],fun e he=>A.each e (List.mem_of_mem_take he),fun e he=>A.fz e (List.mem_of_mem_take he),fun a b e t v q1 q2 q3=>?_⟩;rw[List.getElem?_take]at q1 q3;split at q1
 ·split at q3
  ·exact A.cell a b e t v q1 q2 q3
  ·cases q3
 ·cases q1
theorem Ho (L:cm T E) (H:Mem X ρ F o c h) {t elem:TypeId} {m i z:Nat} {zv xv:Value} {zs:List TV} {es:List (List TV)} (hd:T.desc t=some (.slice elem)) (hz:T.zero elem=some zv) (hl:look o m=some (.arr z true es)) (jy:l8 zv=some zs)
 (hc:(zs.all fz&&Nat.beq zs.length z&&zs.all xw)=true) (hw:(es.length≤i→K (.dF []) o c (.du [m]))∧(i<es.length→K (.dF []) (eY o m (.arr z true (es.take i++List.replicate (es.length - i) zs))) c (.du [m])))
 (hx:VR c ρ F h (.sv m i) xv) (hp:aM E af p=none) (hq:bL E af p=none) (cW:bf E af p=none)
 (he:da E X.base af p h=((E.desc t).bind fun _=>qU E X.base h t xv).bind fun r=>some (.val r.1,r.2)):eZ E X ρ F o c af h p K:=by
 simp only[Bool.and_eq_true,beq_iff]at hc;obtain⟨⟨gK,Gn⟩,NQ⟩:=hc;obtain⟨jY,nS⟩:=L.zero _ _ hz;have rk:dI c ρ F h zs zv.cells.toList:=fV nS jy;have nop:∀a cap,xv= .slice a 0 cap→(a=none∨∃b q z1,a=some ⟨b,q,some z1⟩)→es.length≤i→eZ E X ρ F o c af h p K:=by
  rintro a cap rfl ha hle;refine eZ.du H (v:=.dF []) (x:=.tuple #[]) hp hq cW ?_ (.refl H) (.iM .nil) (Raw.refl [m]) (hw.1 hle);rw[he,L.desc _ _ hd];rcases ha with rfl |⟨b,q,z1,rfl⟩<;>rfl
 obtain⟨S,K0⟩:=H.ex;have hO:=K0.b7 m _ hl;generalize hS:S m=Sm at hO;cases hx with
 |sv hn h1 ha h0=>
  cases hO with
  |nil hb Cw=>
   rcases h0 _ hb with rfl |⟨b,o',z',cap,rfl⟩
   ·exact nop _ _ rfl (.inl rfl) (Nat.zero_le _)
   ·exact nop _ _ rfl (.inr ⟨_,_,_,rfl⟩) (Nat.zero_le _)
  |arr hb hg hf oy dx Cw cC vX zL lx hF=>
   rename_i b f t0 eX aQ cs;obtain⟨q,cap,rfl,hq'⟩:=ha _ _ _ hb;by_cases hi:i<es.length
   ·obtain rfl:=hq' hi;have hE:ER c ρ F h z es cs:=⟨cC,vX,zL,lx⟩;have fP:=dD hf oy (aB hg);have hR:=ER.replicate rk Gn gK (es.length - i);have hRl:=hR.len;rw[List.length_replicate]at hRl;have hiz:i*z+(es.length - i)*z=es.length*z:=by rw[←Nat.add_mul];congr 1;omega
    obtain⟨ua,CD⟩:=lL (n:=i*z) (l:=cs) (xs:=aT zv.cells.toList (es.length - i)) (by rw[cC,hRl];omega);have adp:ua=cs.take (i*z)++aT zv.cells.toList (es.length - i):=by
     rw[kx CD,List.drop_drop,List.drop_eq_nil_of_le (by rw[cC,hRl];omega),List.append_nil]
    have Z8:ER c ρ F h z (es.take i++List.replicate (es.length - i) zs) ua:=by rw[adp];exact(hE.take (Nat.le_of_lt hi)).append hR
    have zw:(f,true)∈S m:=by rw[hS];exact List.mem_cons_self
    have qL:=K0.eT m _ f hl (dU zw);have Ou:X.base≤b:=by have:=H.wf.le _ _ _ _ _ hg;omega
    have W:=Cq (cs':=ua) H.wf hg hf;obtain⟨t',th',kO⟩:=W.self;have IN:(es.take i++List.replicate (es.length - i) zs).length=es.length:=by simp;omega
    obtain⟨M,hk⟩:=H.set K0 (y':=.arr z true (es.take i++List.replicate (es.length - i) zs)) (S0:=[(f,true)]) hl zw (fun p hp=>by simp only[List.mem_singleton]at hp;subst hp;exact zw) (by simp[dk]) W.size W.wf W.same W.dk fun hm _=>
     OR.N6 (by rw[IN];exact hb) kO W.dr (Nat.le_refl _) dx Cw (Z8.mono hm) (fun h=>by cases h)
    refine eZ.du H (v:=.dF []) (x:=.tuple #[]) hp hq cW ?_ (Ew H (.refl H) M hk (fun _ h=>h) (by rw[W.size];exact Nat.le_refl _) fun b' cs' bX kQ=>jB H.wf W.same (K0.apart m _ _ b' hl zw bX) kQ) (.iM .nil)
     (sR H (.refl H) K0 hl (dU zw) W.same) (hw.2 hi)
    rw[he,L.desc _ _ hd];unfold qU;simp only[Option.bind_some];have mK:Nat.beq (es.length - i) 0=false:=by
     cases hbq:Nat.beq (es.length - i) 0 with
     |false=>rfl
     |true=>have:=beq_iff.1 hbq;omega
    rw[mK];simp only[cond_false,L.desc _ _ hd,Option.bind_some,jY,wz NQ rk,bF,fP,CD,Ja hg hf Ou dx]
   ·exact nop _ _ (by rw[show es.length - i=0 by omega]) (.inr ⟨_,_,_,rfl⟩) om
end
section
variable {T E:Env} {X:Cx} {ρ:Gh} {F:Nat→Prop} {o:Ob} {c:Nat} {af:AF} {f:Fr} {h:ab} {p:Oper} {K:OK}
theorem size_le {k bytes:Nat} (hk:k<1048576) (hb:bytes<1048576):(k+1)*(bytes+1)≤1099511627776:=by
 have h1:(k+1)*(bytes+1)≤1048576*1048576:=Nat.mul_le_mul hk hb;exact h1
theorem Mem.RJ (H:Mem X ρ F o c h) {z:Nat} {y:TO} (vp:∀(c:Nat) (ρ:Gh) (F:Nat→Prop) (n:Nat),ρ n=some (.nil z)→OR c ρ F h X.base n [] y):Mem X (ct ρ c (some (.nil z))) F ((c,y)::o) (c+1) h∧∀t v,VR c ρ F h t v→VR (c+1) (ct ρ c (some (.nil z))) F h t v:=by
 obtain⟨S,K⟩:=H.ex
 refine H.change K (fun _=>False) c y [] (Nat.le_refl _) H.wf (fun _ hf=>hf.elim) (fun _ _ _=>rfl) (fun _ _ _ hr=>hr) (fun _ _=>rfl) (fun _ hb=>hb) (fun _ hb hn=>absurd hb hn) om (H.Eb _) (H.Ec _) (H.Ed _)
  (fun m y' bc hl=>?_) (fun y' hl=>?_) (vp _ _ _ _ (aI _ _ _)) (by simp[dk]) (by simp[dk]) (by simp)
 ·rw[aN,if_neg (fun e=>bc e.symm)]at hl;exact⟨hl,bj _ _ bc,fun _ _ hf=>hf.elim⟩
 ·rw[aN,if_pos rfl,Option.some.injEq]at hl;exact hl.symm
theorem Mem.UF (H:Mem X ρ F o c h) {S:Nat→Ft} (K:MO X ρ F o c h S) {m z l b0:Nat} {y y':TO} {S0:Ft} {h':ab} (hl:look o m=some y) (hb:ρ m=some (.arr b0 z l)) (fL:h.size≤h'.size) (IG:Wf h') (same:∀b,b<h.size→h'.get b=h.get b)
 (cZ:∀b cs,F b→h.rd b=some cs→h'.rd b=some cs) (iO:∀p∈S0,p∈S m∨p.1=h.size) (oQ:(dk S0).Nodup) (bH:∀x∈dk S0,x<h'.size) (fl:Bool) (ud:fl=true→(h'.rd h.size).isSome=true∧hd h' h.size=h.size∧∀x,(x,true)∈S0→h.size≠x) {q:Loc} (_:∀b,q≠ .dw b)
 (vp:(∀t v,VR c ρ F h t v→VR (c+1) (ct (ct ρ m none) c (some q)) (fun x=>F x∨(fl=true∧x=h.size)) h' t v)→OR (c+1) (ct (ct ρ m none) c (some q)) (fun x=>F x∨(fl=true∧x=h.size)) h' X.base c S0 y'):
 Mem X (ct (ct ρ m none) c (some q)) (fun x=>F x∨(fl=true∧x=h.size)) ((c,y')::fy o m) (c+1) h'∧∀t v,VR c ρ F h t v→VR (c+1) (ct (ct ρ m none) c (some q)) (fun x=>F x∨(fl=true∧x=h.size)) h' t v:=by
 have hm:=H.lt hl;have fp:∀n,n≠m→n≠c→ct (ct ρ m none) c (some q) n=ρ n:=fun n h1 h2=>by rw[bj _ _ h2,bj _ _ h1]
 have hA:∀n l',n<c→ct (ct ρ m none) c (some q) n=some l'→ρ n=some l':=fun n l' hn h1=>by
  by_cases e:n=m
  ·subst e;rw[bj _ _ om,aI]at h1;cases h1
  ·rwa [fp n e om]at h1
 have hB:∀n b',ρ n=some (.dw b')→ct (ct ρ m none) c (some q) n=some (.dw b'):=fun n b' hn=>by
  have:=H.names _ _ hn;by_cases e:n=m
  ·subst e;rw[hb]at hn;cases hn
  ·rwa [fp n e om]
 have Ee:∀t v,VR c ρ F h t v→VR (c+1) (ct (ct ρ m none) c (some q)) (fun x=>F x∨(fl=true∧x=h.size)) h' t v:=fun t v=>VR.mono om hA hB (fun _ hb=>.inl hb) cZ;have vq:∀n y1,n≠c→look ((c,y')::fy o m) n=some y1→n≠m∧look o n=some y1:=fun n y bc hy=>by
  rw[aN,if_neg (fun e=>bc e.symm),dz]at hy;by_cases e:n=m
  ·rw[if_pos e]at hy;cases hy
  ·rw[if_neg e]at hy;exact⟨e,hy⟩
 have IL:∀x∈dk S0,x∈dk (S m)∨x=h.size:=fun x hx=>by
  obtain⟨p,hp,rfl⟩:=List.mem_map.1 hx;rcases iO p hp with h1|e
  ·exact .inl (List.mem_map.2 ⟨p,h1,rfl⟩)
  ·exact .inr e
 refine H.change K (fun _=>False) c y' S0 fL IG (fun _ hf=>hf.elim) (fun b hb _=>same b hb) cZ (fun b hb=>by unfold hd;rw[same b hb]) (fun _ hb=>.inl hb) (fun b hb hn=>?_) om hA hB (fun n l' hn=>?_)
  (fun n y' bc hy=>?_) (fun y' hy=>?_) (vp Ee) oQ (fun x hx=>?_) fun x b hx hb=>?_
 ·rcases hb with hb|⟨hf,rfl⟩
  ·exact absurd hb hn
  ·obtain⟨g1,g2,g3⟩:=ud hf;refine⟨g1,fun n y1 x bc hy hx e=>?_,fun x hx=>by rw[g2];exact g3 x hx,.inr (by rw[g2];exact H.oH.size)⟩;rw[g2]at e;subst e;have:=(K.eT n y1 _ (vq n y1 bc hy).2 (dU hx)).2.1;omega
 ·by_cases e:n=c
  ·omega
  ·by_cases e2:n=m
   ·omega
   ·rw[fp n e2 e]at hn;have:=H.names _ _ hn;omega
 ·obtain⟨h1,h2⟩:=vq n y' bc hy;exact⟨h2,fp n h1 bc,fun _ _ hf=>hf.elim⟩
 ·rw[aN,if_pos rfl,Option.some.injEq]at hy;exact hy.symm
 ·rcases IL x hx with h1|rfl
  ·obtain⟨q1,q2,q3⟩:=K.eT m y x hl h1;refine⟨q1,bH x hx,q3,fun n y1 bc hy hh=>?_⟩;obtain⟨h3,h4⟩:=vq n y1 bc hy;exact h3 (K.fg n m y1 _ _ h4 hl hh h1)
  ·refine⟨H.l5,bH _ hx,.inr H.oH.size,fun n y1 bc hy hh=>?_⟩;obtain⟨h3,h4⟩:=vq n y1 bc hy;have:=(K.eT n y1 _ h4 hh).2.1;omega
 ·rcases iO _ hx with h1|e
  ·exact K.apart m y x b hl h1 hb
  ·simp only at e;subst e;have:=H.wf.I6 b;have:=H.I7 hb;omega
theorem OR.named {base m n c':Nat} {ρ':Gh} {S:Ft} {y:TO} (W:Wf h) (H:OR c ρ F h base m S y) (hm:∀t v,VR c ρ F h t v→VR c' ρ' F h t v) (fp:ρ' n=ρ m):OR c' ρ' F h base n S y:=by
 have kk:∀{S:Ft} {l:List TV} {vs:List Value},cI c ρ F h base S l vs→cI c' ρ' F h base S l vs:=fun hc=>hc.bl (T:=fun _=>False) W (fun _ _ _=>rfl) (fun _ h=>h) (fun _ _ _ h=>h) hm (fun _ _ hf=>hf.elim);cases H with
 |cells hb hg ht hc=>exact .cells (fp.trans hb) hg ht (kk hc)
 |map hb hg hl hc bW=>exact .map (fp.trans hb) hg hl (fun i e e' h1 h2=>let⟨q1,q2,q3,q4⟩:=hc i e e' h1 h2;⟨q1,q2,q3,hm _ _ q4⟩) bW
 |nil hb hz=>exact .nil (fp.trans hb) hz
 |arr hb hg hf ht dx hz hl he gK hc hF=>exact .arr (fp.trans hb) hg hf ht dx hz hl he gK (fun i j e t v q1 q2 q3=>hm _ _ (hc i j e t v q1 q2 q3)) hF
 |gF hb hz=>exact .gF (fp.trans hb) hz
 |bx hb hg hf ht dx hz hl he bT jA hc=>exact .bx (fp.trans hb) hg hf ht dx hz hl he bT jA (kk hc)
 |eL hb hg bT hc bW=>exact .eL (fp.trans hb) hg bT (hc.bl (T:=fun _=>False) W (fun _ _ _=>rfl) (fun _ h=>h) (fun _ _ _ h=>h) hm (fun _ _ hf=>hf.elim)) bW
 |gZ hb hg=>exact .gZ (fp.trans hb) hg
theorem Mem.rename (H:Mem X ρ F o c h) {m z:Nat} {y:TO} (hl:look o m=some y) {b l:Nat} (hb:ρ m=some (.arr b z l)):
 Mem X (ct (ct ρ m none) c (some (.arr b z l))) F ((c,y)::fy o m) (c+1) h∧∀t v,VR c ρ F h t v→VR (c+1) (ct (ct ρ m none) c (some (.arr b z l))) F h t v:=by
 obtain⟨S,K⟩:=H.ex;have e:(fun x=>F x∨(false=true∧x=h.size))=F:=by funext x;simp
 have:=H.UF K (S0:=S m) (y':=y) (q:=.arr b z l) hl hb (Nat.le_refl _) H.wf (fun _ _=>rfl) (fun _ _ _ h=>h) (fun p hp=>.inl hp) (K.Cm m y hl) (fun x hx=>(K.eT m y x hl hx).2.1) false (fun h=>by cases h) (by simp) fun hm=>by
  rw[e]at hm ⊢;exact(K.b7 m y hl).named H.wf hm ((aI _ _ _).trans hb.symm)
 rwa [e]at this
theorem py (H:Mem X ρ F o c h) {x:TV} {zx n:Nat} {xs:List (List TV)} {op:List (Nat×List TV)} (he:ZI o x=some (zx,xs,op)) (hz:zx=n∨zx=0∧op=[]) (jA:∀p∈op,p.2.all eD=true) {xv:Value} (hx:VR c ρ F h x xv):
 mE xv=some xs.length∧(∀p∈op,p.1<xs.length∧p.2.length=n)∧(∀e∈xs,∀t∈e,fz t=true)∧(xs=[]∨∃new,fm h n xs.length xv=some new∧(op=[]→ER c ρ F h n xs new)∧new.length=xs.length*n∧(∀e∈xs,e.length=n)∧dI c ρ F h (cD xs op).flatten new):=by
 have done:∀{xs:List (List TV)} {new:List Value},ER c ρ F h n xs new→fm h n xs.length xv=some new→mE xv=some xs.length→mE xv=some xs.length∧(∀p∈([]:List (Nat×List TV)),p.1<xs.length∧p.2.length=n)∧(∀e∈xs,∀t∈e,fz t=true)∧(xs=[]∨∃new,fm h n xs.length xv=some new∧(([]:List (Nat×List TV))=[]→ER c ρ F h n xs new)∧new.length=xs.length*n∧(∀e∈xs,e.length=n)∧dI c ρ F h (cD xs []).flatten new):=
  fun E h1 h2=>⟨h2,by simp,E.fz,.inr ⟨_,h1,fun _=>E,E.len,E.each,ik E.len E.each E.cell⟩⟩
 unfold ZI at he;split at he
 ·rename_i m;split at he
  ·rename_i z w es hl;cases he;obtain⟨Sm,hO⟩:=H.b7 hl;cases hx with
   |tk hn p5 ha h0=>
    cases hO with
    |nil hb jY=>
     rcases h0 _ hb with rfl |⟨b,o',cs,q1,q2,q3,q4,rfl⟩
     ·exact⟨rfl,by simp,by simp,.inl rfl⟩
     ·exact⟨rfl,by simp,by simp,.inl rfl⟩
    |arr hb hg hf ht dx jY hlen he gK hc hF=>
     rename_i b f t0 eX aQ cs;obtain⟨cap,h1,rfl⟩:=ha _ _ _ hb;have RC:zx=n:=by omega
     subst RC;refine done ⟨hlen,he,gK,hc⟩ ?_ rfl;simp only[fm,M.ae,dD hf ht (aB hg),Option.bind_some,List.drop_zero,aW];rw[←hlen];simp
  ·rename_i z es Kz hl;split at he
   ·rename_i iY;cases he;obtain⟨Sm,hO⟩:=H.b7 hl;have gK:∀e∈xs,∀t∈e,fz t=true:=fun e he t ht=>List.all_eq_true.1 (List.all_eq_true.1 iY e he) t ht;cases hx with
    |tk hn p5 ha h0=>
     cases hO with
     |gF hb jY=>
      rcases h0 _ hb with rfl |⟨b,o',cs,q1,q2,q3,q4,rfl⟩
      ·exact⟨rfl,by simp,by simp,.inl rfl⟩
      ·exact⟨rfl,by simp,by simp,.inl rfl⟩
     |bx hb hg hf ht dx jY hlen he bT adq hc=>
      rename_i b f t0 eX aQ cs;obtain⟨cap,h1,rfl⟩:=ha _ _ _ hb;have RC:zx=n:=by omega
      subst RC;have nS:(cD xs op).flatten.all eD=true:=by
       rw[List.all_eq_true];intro t ht;obtain⟨e,h1,h2⟩:=List.mem_flatten.1 ht;have key:∀(op:List (Nat×List TV)),(∀p∈op,p.2.all eD=true)→e∈cD xs op→eD t=true:=by
        intro op
        induction op with
        |nil=>intro _ h1;have:=gK e h1 t h2;cases t<;>first|rfl |simp[fz]at this
        |cons p l ih=>
         intro jA h1;rcases List.mem_or_eq_of_mem_set h1 with h3|rfl
         ·exact ih (fun q hq=>jA q (List.mem_cons_of_mem _ hq)) h3
         ·exact List.all_eq_true.1 (jA p List.mem_cons_self) t h2
       exact key op jA h1
      obtain⟨hV,_⟩:=hc.YE (fun t v hv hf=>hv.dN hf) nS;refine⟨rfl,adq,gK,.inr ⟨cs,?_,fun e=>?_,hlen,he,hV⟩⟩
      ·simp only[fm,M.ae,dD hf ht (aB hg),Option.bind_some,List.drop_zero,aW];rw[←hlen];simp
      ·subst e;refine⟨hlen,he,gK,fun i j e t v q1 q2 q3=>?_⟩;obtain⟨f1,f2⟩:=fh he q1;refine hV.2 (i*zx+j) t v ?_ q3;show xs.flatten[i*zx+j]? =some t;have hj:j<zx:=by rw[←he e (List.mem_of_getElem? q1)];exact(List.getElem?_eq_some_iff.1 q2).1
       rw[←f1,List.getElem?_take,if_pos hj,List.getElem?_drop]at q2;exact q2
   ·cases he
  ·cases he
 ·cases he;cases hx with
  |nil h1=>subst h1;exact⟨rfl,by simp,by simp,.inl rfl⟩
  |sl q1 q2 q3 q4 q5 q6 q7 q8 q9 UB=>
   rename_i b oo len cap cs;have RC:zx=n:=by omega
   subst RC;refine done (new:=(cs.drop oo).take (xs.length*zx)) ⟨by simp;rw[←q4]at q7;omega,q8,q9,fun i j e t v r1 r2 r3=>?_⟩ ?_ (by simp[mE,q4])
   ·rw[List.getElem?_take]at r3;split at r3
    ·rw[List.getElem?_drop]at r3;exact UB i j e t v r1 r2 (by rw[←r3];congr 1;omega)
    ·cases r3
   ·simp only[fm,M.ae,q2,Option.bind_some,aW,and_true,List.length_drop];rw[←q4]at q7;omega
 ·cases he
theorem ER.dY {z:Nat} {es:List (List TV)} {cs:List Value} (A:ER c ρ F h z es cs) (hz:0<z):cs.all M.dY=true:=by
 rw[List.all_eq_true];intro v hv;obtain⟨k,hk⟩:=List.getElem?_of_mem hv;have hkl:k<cs.length:=(List.getElem?_eq_some_iff.1 hk).1;rw[A.len]at hkl;have hi:k / z<es.length:=by
  rw[Nat.div_lt_iff_lt_mul hz];exact hkl
 obtain⟨e,he⟩:∃e,es[k / z]? =some e:=⟨_,List.getElem?_eq_getElem hi⟩;have vu:=A.each e (List.mem_of_getElem? he);have hj:k % z<e.length:=by rw[vu];exact Nat.mod_lt _ hz
 obtain⟨t,ht⟩:∃t,e[k % z]? =some t:=⟨_,List.getElem?_eq_getElem hj⟩;have QS:k / z*z+k % z=k:=by rw[Nat.mul_comm];exact Nat.div_add_mod k z
 have hvr:=A.cell (k / z) (k % z) e t v he ht (by rw[QS];exact hk);have gK:=A.fz e (List.mem_of_getElem? he) t (List.mem_of_getElem? ht);have hoc:xw t=true:=by
  cases t<;>simp[M.fz]at gK<;>rfl
 exact CE hoc hvr
structure CG (E:Env) (st xt elem n bytes:Nat):Prop where
 sd:E.desc st=some (.slice elem)
 xd:∃e,E.desc xt=some (.slice e)
 size:E.size elem=some n
 bytes:E.bytes elem=some bytes
 zero:∃z,E.zero elem=some z∧z.cells.size=n
theorem yb {base st xt elem n bytes:Nat} (A:CG E st xt elem n bytes) {s x:Value} (hs:KA s=true) (hs0:∀l k,s= .slice none l k→l=0∧k=0) (Dr:∀b oo sp l k,s= .slice (some ⟨b,oo,sp⟩) l k→sp.isSome) (hx:mE x=some 0):bI E base h st xt s x=some (s,h):=by
 obtain⟨e,MY⟩:=A.xd;obtain⟨z,RL,Q3⟩:=A.zero;unfold bI;rw[A.sd,MY];simp only[Option.bind_some,A.size,A.bytes,RL,hx];simp only[kM,Q3,bF];cases s<;>simp[KA]at hs;rename_i a l k;cases a with
 |none=>obtain⟨rfl,rfl⟩:=hs0 l k rfl;simp
 |some a=>
  obtain⟨b,oo,sp⟩:=a;have:=Dr b oo sp l k rfl;cases sp with
  |none=>simp at this
  |some q=>simp
theorem RM {base st xt elem n bytes len:Nat} (A:CG E st xt elem n bytes) {x:Value} {new:List Value} (hx:mE x=some len) (hl:len≠0) (hb:(len+1)*(bytes+1)≤1099511627776) (hf:fm h n len x=some new) (hn:new.length=len*n):
 bI E base h st xt (.slice none 0 0) x=some (fresh h new n len):=by
 obtain⟨e,MY⟩:=A.xd;obtain⟨z,RL,Q3⟩:=A.zero;unfold bI;rw[A.sd,MY];simp only[Option.bind_some,A.size,A.bytes,RL,hx];simp only[kM,Q3,bF];simp[D9,hl,aG.2 hb,hf,hn]
theorem EA {base st xt elem n bytes len b oo sl:Nat} (A:CG E st xt elem n bytes) {x:Value} {old new:List Value} (hx:mE x=some len) (hl:len≠0) (hb:(sl+len+1)*(bytes+1)≤1099511627776) (hf:fm h n len x=some new) (hn:new.length=len*n)
 (ho:M.ae h b oo (sl*n)=some old):bI E base h st xt (.slice (some ⟨b,oo,some n⟩) sl sl) x=some (fresh h (old++new) n (sl+len)):=by
 obtain⟨e,MY⟩:=A.xd;obtain⟨z,RL,Q3⟩:=A.zero;unfold bI;rw[A.sd,MY];simp only[Option.bind_some,A.size,A.bytes,RL,hx];simp only[kM,Q3,bF];simp[D9,hl,aG.2 hb,hf,hn,ho]
theorem RN {base st xt elem n bytes len b sl cap f aQ:Nat} (A:CG E st xt elem n bytes) {x:Value} {old new cs:List Value} (hx:mE x=some len) (hl:len≠0) (hb:(sl+len+1)*(bytes+1)≤1099511627776) (hf:fm h n len x=some new) (hn:new.length=len*n)
 (ho:M.ae h b 0 (sl*n)=some old) (gC:cap≠sl) (hc:h.cellsOf b=some cs) (jf:h.dr b=some (f,b,aQ)) (dx:base≤f) (iu:new.all dY=true):
 bI E base h st xt (.slice (some ⟨b,0,some n⟩) sl cap) x=some (.slice (some ⟨h.size,0,some n⟩) (sl+len) (sl+len+1),dQ h f (bif Nat.beq (sl*n) cs.length then aQ else h.size) (old++new)):=by
 obtain⟨e,MY⟩:=A.xd;obtain⟨z,RL,Q3⟩:=A.zero;unfold bI;rw[A.sd,MY];simp only[Option.bind_some,A.size,A.bytes,RL,hx];simp only[kM,Q3,bF];have h1:new.all dY=true:=iu;simp[D9,hl,aG.2 hb,hf,hn,ho,gC,hc,jf,aG.2 dx,h1];rfl
theorem Mem.flag {n:Nat} {xs:List (List TV)} {o1:Ob} (H:Mem X ρ F ((c,.arr n true xs)::o1) (c+1) h) (w:Bool):∃F',Mem X ρ F' ((c,.arr n w xs)::o1) (c+1) h∧(∀t v,VR (c+1) ρ F h t v→VR (c+1) ρ F' h t v)∧∀b,F b→F' b:=by
 cases w with
 |true=>exact⟨F,H,fun _ _ h=>h,fun _ h=>h⟩
 |false=>
  obtain⟨F',h1,h2,h3,_⟩:=H.share c;refine⟨F',h1.less fun m y hl=>?_,h2,h3⟩;have:jh ((c,TO.arr n true xs)::o1) c=eY ((c,TO.arr n true xs)::o1) c (.arr n false xs):=by
   unfold jh;rw[aN,if_pos rfl]
  rw[this,eg];rw[aN]at hl;by_cases e:m=c
  ·subst e;rw[if_pos rfl,aN,if_pos rfl];rw[if_pos rfl]at hl;simpa using hl
  ·rw[if_neg e,aN,if_neg (fun e2=>e e2.symm)]
   rwa [if_neg (fun e2=>e e2.symm)]at hl
theorem sS (H:Mem X ρ F o c h) {m:Nat} {y:TO} {l:Option Loc}:∀n yn,look o n=some yn→n∉[m]→(∃y',look ((c,y)::fy o m) n=some y')∧ct (ct ρ m none) c l n=ρ n:=by
 intro n yn hn bc;have nV:n≠m:=by simpa using bc
 have:=H.lt hn;exact⟨⟨yn,by rw[aN,if_neg om,dz,if_neg nV];exact hn⟩,by rw[bj _ _ om,bj _ _ nV]⟩
theorem Hu {xs:List (List TV)}:∀{op:List (Nat×List TV)} {es:List (List TV)},(∀p∈op,p.1<es.length)→cD (es++xs) op=cD es op++xs∧(cD es op).length=es.length
 |[],_,_=>⟨rfl,rfl⟩
 |p::l,es,h=>by
  obtain⟨a,b⟩:=Hu (xs:=xs) (op:=l) (es:=es) fun q hq=>h q (List.mem_cons_of_mem _ hq);have:=h p List.mem_cons_self;exact⟨by rw[cD,cD,a,List.set_append_left _ _ om],by rw[cD,List.length_set,b]⟩
theorem RO {es xs:List (List TV)} {q:Nat×List TV} {op:List (Nat×List TV)} (h:∀p∈op,p.1<es.length):cD (es++xs) ((es.length+q.1,q.2)::op)=cD es op++cD xs [q]:=by
 obtain⟨a,b⟩:=Hu (xs:=xs) h;rw[cD,a,List.set_append_right _ _ om,b];simp[cD]
theorem dI.aad {l:List TV} {m:List Value} (H:dI c ρ F h l m) (ho:∀t∈l,xw t=true):m.all M.dY=true:=wz (List.all_eq_true.2 ho) H
theorem kH (H:Mem X ρ F o c h) {st xt elem:TypeId} {n bytes:Nat} {xs:List (List TV)} {op:List (Nat×List TV)} {sv xv:Value} {F1:Nat→Prop} {o1:Ob} {iw:Gh} {y1 y2:TO} {ns:List Nat} (A:CG E st xt elem n bytes) (mK:0<n) (hlen:mE xv=some xs.length)
 (kZ:xs=[]∨∃new,fm h n xs.length xv=some new∧(op=[]→ER c ρ F h n xs new)∧new.length=xs.length*n∧(∀e∈xs,e.length=n)∧dI c ρ F h (cD xs op).flatten new)
 (fin:∀v h',bI E X.base h st xt sv xv=some (v,h')→da E X.base af p h=some (.val v,h')) (hp:aM E af p=none) (hq:bL E af p=none) (cW:bf E af p=none)
 (M1:Mem X iw F1 o1 c h) (k1:∀t v,VR c ρ F h t v→VR c iw F1 h t v) (f1:∀b,F b→F1 b) (w1:∀m y,look o m=some y→m∉ns→(∃y',look o1 m=some y')∧iw m=ρ m)
 (qg:sv= .slice none 0 0∨∃b oo cs,F b∧h.rd b=some cs∧oo≤cs.length∧sv= .slice (some ⟨b,oo,some n⟩) 0 0) (lH:(xs.length+1)*(bytes+1)≤1099511627776)
 (Kr:xs=[]→∀(c:Nat) (ρ:Gh) (F:Nat→Prop) (m:Nat),ρ m=some (.nil n)→OR c ρ F h X.base m [] y1)
 (ko:∀new,(op=[]→ER c iw F1 h n xs new)→new.length=xs.length*n→(∀e∈xs,e.length=n)→dI c iw F1 h (cD xs op).flatten new→Mem X (ct iw c (some (.arr h.size n xs.length))) F1 ((c,y1)::o1) (c+1) (h.push (.cells new h.size h.size 0))∧∀t v,VR c iw F1 h t v→VR (c+1) (ct iw c (some (.arr h.size n xs.length))) F1 (h.push (.cells new h.size h.size 0)) t v)
 (fl:∀{iw:Gh} {F1:Nat→Prop} {h1:ab},Mem X iw F1 ((c,y1)::o1) (c+1) h1→∃F',Mem X iw F' ((c,y2)::o1) (c+1) h1∧(∀t v,VR (c+1) iw F1 h1 t v→VR (c+1) iw F' h1 t v)∧∀b,F1 b→F' b)
 (hK:K (.tk c) ((c,y2)::o1) (c+1) (.du ns)):eZ E X ρ F o c af h p K:=by
 have Ji:∀m y,look o m=some y→m≠c:=fun m y hl=>by have:=H.lt hl;omega
 by_cases sm:xs.length=0
 ·have UH:xs=[]:=List.length_eq_zero_iff.1 sm;obtain⟨M2,k2⟩:=M1.RJ (y:=y1) (z:=n) (Kr UH);obtain⟨F3,M3,k3,f3⟩:=fl M2;have xn:bI E X.base h st xt sv xv=some (sv,h):=by
   refine yb A ?_ ?_ ?_ (by rw[hlen,sm])
   ·rcases qg with rfl |⟨b,oo,cs,_,_,_,rfl⟩<;>rfl
   ·rintro l k e;rcases qg with rfl |⟨b,oo,cs,_,_,_,rfl⟩<;>cases e;exact⟨rfl,rfl⟩
   ·rintro b oo sp l k e;rcases qg with rfl |⟨b,oo,cs,_,_,_,rfl⟩<;>cases e;rfl
  refine eZ.du H hp hq cW (fin _ _ xn) ⟨M3,fun t x hx=>k3 t x (k2 t x (k1 t x hx)),Nat.le_refl _,fun b hb=>f3 b (f1 b hb),fun _ _ _ hr=>hr⟩ ?_ (fun m y hl hm=>⟨?_,?_,fun b _=>⟨rfl,fun _ hr=>hr⟩⟩) hK
  ·refine .tk om (by rcases qg with rfl |⟨b,oo,cs,_,_,_,rfl⟩<;>rfl) (fun b z len hx=>?_) (fun z hx=>?_)
   ·rw[aI]at hx;cases hx
   ·rw[aI]at hx;cases hx;rcases qg with rfl |⟨b,oo,cs,q1,q2,q3,rfl⟩
    ·exact .inl rfl
    ·exact .inr ⟨b,oo,cs,f3 _ (f1 _ q1),q2,mK,q3,rfl⟩
  ·rw[aN,if_neg (Ji m y hl).symm];exact(w1 m y hl hm).1
  ·rw[bj _ _ (Ji m y hl)];exact(w1 m y hl hm).2
 ·rcases kZ with e|⟨new,RP,hE,w7,MX,hV⟩
  ·subst e;simp at sm
  ·obtain⟨M2,k2⟩:=ko new (fun e=>(hE e).mono k1) w7 MX (hV.qJ k1);obtain⟨F3,M3,k3,f3⟩:=fl M2;have xn:bI E X.base h st xt sv xv=some (fresh h new n xs.length):=by
    rcases qg with rfl |⟨b,oo,cs,_,q2,q3,rfl⟩
    ·exact RM A hlen sm lH RP w7
    ·have:=EA (base:=X.base) (sl:=0) (old:=[]) (b:=b) (oo:=oo) A hlen sm (by simpa using lH) RP w7 (by simp[M.ae,q2,takeN]);simpa using this
   refine eZ.du H hp hq cW (fin _ _ xn) ⟨M3,fun t x hx=>k3 t x (k2 t x (k1 t x hx)),by show h.size≤h.size+1;omega,fun b hb=>f3 b (f1 b hb),fun b cs hb hr=>(ew H.wf.le _ (H.I7 hb)).trans hr⟩ ?_ (fun m y hl hm=>⟨?_,?_,fun b hb=>?_⟩) hK
   ·refine .tk om rfl (fun b z len hx=>?_) (fun z hx=>?_)
    ·rw[aI]at hx;cases hx;exact⟨_,om,rfl⟩
    ·rw[aI]at hx;cases hx
   ·rw[aN,if_neg (Ji m y hl).symm];exact(w1 m y hl hm).1
   ·rw[bj _ _ (Ji m y hl)];exact(w1 m y hl hm).2
   ·have:=H.xV hl hb;exact⟨by rw[ab.aq,if_neg om],fun cs hr=>by rw[ew H.wf.le _ this];exact hr⟩
theorem Jj (H:Mem X ρ F o c h) {st xt elem:TypeId} {z bytes:Nat} {xs:List (List TV)} {xv:Value} {S:Nat→Ft} (K0:MO X ρ F o c h S) {m b f t0 eX aQ len cap l0:Nat} {w:Bool} {y y2:TO} {Sq:Ft} {cs new:List Value} (A:CG E st xt elem z bytes) (hlen:mE xv=some xs.length) (sm:xs.length≠0)
 (fin:∀v h',bI E X.base h st xt (.slice (some ⟨b,0,some z⟩) len cap) xv=some (v,h')→da E X.base af p h=some (.val v,h')) (hp:aM E af p=none) (hq:bL E af p=none) (cW:bf E af p=none)
 (hl:look o m=some y) (hS:S m=(f,w)::Sq) (hb:ρ m=some (.arr b z l0)) (hg:h.get b=some (.cells cs f t0 eX)) (hf:h.dr b=some (f,b,aQ)) (ht:aQ≤b) (dx:X.base≤f) (_:0<z) (IM:len*z≤cs.length) (hlw:cs.length=len*z∨w=true) (gC:len≤cap)
 (lH:(len+xs.length+1)*(bytes+1)≤1099511627776) (RP:fm h z xs.length xv=some new) (w7:new.length=xs.length*z) (iu:new.all dY=true) (hw:w=true∨Sq=[])
 (vp:∀{c':Nat} {ρ':Gh} {F':Nat→Prop} {h':ab} {b' f' t1 wW ub:Nat} {T:Nat→Prop},(∀t v,VR c ρ F h t v→VR c' ρ' F' h' t v)→(∀b,F b→F' b)→(∀b cs,F b→h.rd b=some cs→h'.rd b=some cs)→(∀b,b<h.size→¬T (hd h b)→h'.get b=h.get b)→(∀x∈dk Sq,¬T x)→
  ρ' c=some (.arr b' z (len+xs.length))→h'.get b'=some (.cells (cs.take (len*z)++new) f' t1 wW)→h'.dr b'=some (f',b',ub)→ub≤b'→X.base≤f'→(w=false→F' b')→OR c' ρ' F' h' X.base c ((f',w)::Sq) y2)
 (hK:K (.tk c) ((c,y2)::fy o m) (c+1) (.du [m])):eZ E X ρ F o c af h p K:=by
 have fP:=dD hf ht (aB hg);have tU:M.ae h b 0 (len*z)=some (cs.take (len*z)):=by
  simp only[M.ae,fP,Option.bind_some,List.drop_zero,aW];simp[IM]
 obtain⟨c0,bQ⟩:=bO hf;simp only at bQ;have zw:f∈dk (S m):=by rw[hS];exact List.mem_cons_self
 have nW:=K0.Cm m _ hl;rw[hS]at nW;obtain⟨n1,n2⟩:=List.nodup_cons.1 nW;by_cases bT:cap=len
 ·subst bT;have xn:=EA (base:=X.base) A hlen sm lH RP w7 tU;have Ws:(h.push (.cells (cs.take (cap*z)++new) h.size h.size 0)).get h.size=some (.cells (cs.take (cap*z)++new) h.size h.size 0):=by rw[ab.aq,if_pos rfl]
  have cZ:∀b cs',F b→h.rd b=some cs'→(h.push (.cells (cs.take (cap*z)++new) h.size h.size 0)).rd b=some cs':=fun b cs' hb hr=>(ew H.wf.le _ (H.I7 hb)).trans hr;have Ow:∀b,b<h.size→(h.push (.cells (cs.take (cap*z)++new) h.size h.size 0)).get b=h.get b:=fun b hb=>by rw[ab.aq,if_neg om]
  have adu:∀F3,(∀b,F b→F3 b)→Mem X (ct (ct ρ m none) c (some (.arr h.size z (cap+xs.length)))) F3 ((c,y2)::fy o m) (c+1) (h.push (.cells (cs.take (cap*z)++new) h.size h.size 0))→(∀t x,VR c ρ F h t x→VR (c+1) (ct (ct ρ m none) c (some (.arr h.size z (cap+xs.length)))) F3 (h.push (.cells (cs.take (cap*z)++new) h.size h.size 0)) t x)→eZ E X ρ F o c af h p K:=by
   intro F3 f3 M3 k3;refine eZ.du H hp hq cW (fin _ _ xn) ⟨M3,k3,by show h.size≤h.size+1;omega,f3,cZ⟩ ?_ (fun n y oN bc=>?_) hK
   ·refine .tk om rfl (fun b' z' len hx=>?_) (fun z hx=>?_)
    ·rw[aI]at hx;cases hx;exact⟨cap+xs.length+1,om,by simp⟩
    ·rw[aI]at hx;cases hx
   ·obtain⟨q1,q2⟩:=sS H (y:=y2) (l:=some (.arr h.size z (cap+xs.length))) n y oN bc;have bH:=fun b' bX=>H.xV (b:=b') oN bX;exact⟨q1,q2,fun b' bX=>⟨Ow b' (bH b' bX),fun cs hr=>(ew H.wf.le _ (bH b' bX)).trans hr⟩⟩
  have adv:Wf (h.push (.cells (cs.take (cap*z)++new) h.size h.size 0)):=H.wf.push fun cs f cA aQ e=>by cases e;exact Nat.le_refl _
  obtain⟨M3,k3⟩:=H.UF K0 (S0:=(h.size,w)::Sq) (y':=y2) (q:=.arr h.size z (cap+xs.length)) (h':=h.push (.cells (cs.take (cap*z)++new) h.size h.size 0)) hl hb (by rw[ab.size_push];omega) adv Ow cZ (fun p hp=>by
   rcases List.mem_cons.1 hp with rfl |hp
   ·exact .inr rfl
   ·rw[hS];exact .inl (List.mem_cons_of_mem _ hp)) (List.nodup_cons.2 ⟨fun hx=>by
    have:=(K0.eT m _ h.size hl (by rw[hS];exact List.mem_cons_of_mem _ hx)).2.1;omega,n2⟩) (fun x hx=>by
    rw[ab.size_push];rcases List.mem_cons.1 hx with rfl |hx
    ·simp
    ·have:=(K0.eT m _ x hl (by rw[hS];exact List.mem_cons_of_mem _ hx)).2.1;omega) (!w) (fun hw'=>by
    have IG:w=false:=by simpa using hw'
    subst IG;have hSq:Sq=[]:=by rcases hw with h|h;cases h;exact h
    subst hSq;exact⟨by rw[dD (bM Ws Ws) (Nat.zero_le _) (aB Ws)];rfl,bZ Ws,by simp⟩) (by simp) fun hm=>
   vp (T:=fun _=>False) hm (fun _ h=>.inl h) cZ (fun b hb _=>Ow b hb) (fun _ _ hf=>hf.elim) (aI _ _ _) Ws (bM Ws Ws) (Nat.zero_le _) H.l5 (fun h=>.inr ⟨by simp[h],rfl⟩)
  exact adu _ (fun _ h=>.inl h) M3 k3
 ·have xn:=RN (base:=X.base) (cap:=cap) A hlen sm lH RP w7 tU bT (aB hg) hf dx iu;obtain⟨c9,Gg⟩:∃t,t=(bif Nat.beq (len*z) cs.length then aQ else h.size):=⟨_,rfl⟩;rw[←Gg]at xn;have II:=H.wf.lt hg;have aaf:c9≤h.size:=by cases MP:Nat.beq (len*z) cs.length<;>rw[MP]at Gg<;>simp only[cond_true,cond_false]at Gg<;>omega
  have aag:c9=aQ∨w=true:=by
   rcases hlw with e|e
   ·left;rw[Gg,e,show Nat.beq (len*z) (len*z)=true from beq_iff.2 rfl];rfl
   ·exact .inr e
  have Ox:∀x,x<h.size→hd h x≠f→(dQ h f c9 (cs.take (len*z)++new)).get x=h.get x:=fun x hx YF=>by
   rw[ext_get bQ,if_neg om,if_neg];intro e;subst e;exact YF (bZ bQ)
  have adw:∀x cs',F x→h.rd x=some cs'→(dQ h f c9 (cs.take (len*z)++new)).rd x=some cs':=fun x cs' hx hr=>by
   rcases aag with e|e
   ·rw[e];exact N8 H.wf bQ hr
   ·exact jB H.wf Ox (K0.apart m _ f x hl (by rw[hS,e];exact List.mem_cons_self) hx) hr
  obtain⟨M2,k2⟩:=H.Ux K0 c9 (len':=len+xs.length) (cs':=cs.take (len*z)++new) (y':=y2) hl hS hb hg hf ht aaf aag fun hm same cZ sy hfc=>
   vp (T:=fun x=>x=f) hm (fun _ h=>.inl h) cZ same (fun x hx e=>n1 (by subst e;exact hx)) (aI _ _ _) sy hfc aaf dx (fun hw=>.inr ⟨hw,rfl⟩)
  refine eZ.du H hp hq cW (fin _ _ xn) ⟨M2,k2,by rw[sM];omega,fun _ h=>.inl h,adw⟩ ?_ (fun n y oN bc=>?_) hK
  ·refine .tk om rfl (fun b' z' len hx=>?_) (fun z hx=>?_)
   ·rw[aI]at hx;cases hx;exact⟨_,om,rfl⟩
   ·rw[aI]at hx;cases hx
  ·obtain⟨q1,q2⟩:=sS H (y:=y2) (l:=some (.arr h.size z (len+xs.length))) n y oN bc;have nV:n≠m:=by simpa using bc
   refine⟨q1,q2,fun b' bX=>?_⟩;obtain⟨bH,hh⟩:=H.CC K0 oN bX;have aah:hd h b'≠f:=fun e=>by
    rw[e]at hh;exact nV (K0.fg n m _ _ _ oN hl hh zw)
   exact⟨Ox b' bH aah,fun cs hr=>jB H.wf Ox aah hr⟩
theorem Hv (H:Mem X ρ F o c h) {st xt elem:TypeId} {z bytes:Nat} {xs:List (List TV)} {xv:Value} {S:Nat→Ft} (K0:MO X ρ F o c h S) {m b f t0 eX aQ len cap:Nat} {w:Bool} {y y2:TO} {Sq:Ft} {cs new:List Value} (A:CG E st xt elem z bytes) (hlen:mE xv=some xs.length) (sm:xs.length≠0)
 (fin:∀v h',bI E X.base h st xt (.slice (some ⟨b,0,some z⟩) len cap) xv=some (v,h')→da E X.base af p h=some (.val v,h')) (hp:aM E af p=none) (hq:bL E af p=none) (cW:bf E af p=none)
 (hl:look o m=some y) (hS:S m=(f,w)::Sq) (hb:ρ m=some (.arr b z len)) (hg:h.get b=some (.cells cs f t0 eX)) (hf:h.dr b=some (f,b,aQ)) (ht:aQ≤b) (dx:X.base≤f) (hz:0<z) (IM:cs.length=len*z) (gC:len≤cap)
 (lH:(len+xs.length+1)*(bytes+1)≤1099511627776) (RP:fm h z xs.length xv=some new) (w7:new.length=xs.length*z) (iu:new.all dY=true) (hw:w=true∨Sq=[])
 (vp:∀{c':Nat} {ρ':Gh} {F':Nat→Prop} {h':ab} {b' f' t1 wW ub:Nat} {T:Nat→Prop},(∀t v,VR c ρ F h t v→VR c' ρ' F' h' t v)→(∀b,F b→F' b)→(∀b cs,F b→h.rd b=some cs→h'.rd b=some cs)→(∀b,b<h.size→¬T (hd h b)→h'.get b=h.get b)→(∀x∈dk Sq,¬T x)→
  ρ' c=some (.arr b' z (len+xs.length))→h'.get b'=some (.cells (cs++new) f' t1 wW)→h'.dr b'=some (f',b',ub)→ub≤b'→X.base≤f'→(w=false→F' b')→OR c' ρ' F' h' X.base c ((f',w)::Sq) y2)
 (hK:K (.tk c) ((c,y2)::fy o m) (c+1) (.du [m])):eZ E X ρ F o c af h p K:=by
 have e:cs.take (len*z)=cs:=List.take_of_length_le om;exact Jj H K0 A hlen sm fin hp hq cW hl hS hb hg hf ht dx hz om (.inl IM) gC lH RP w7 iu hw (by rw[e];exact vp) hK
theorem EB (L:cm T E) (H:Mem X ρ F o c h) {st xt:TypeId} {l:Int} {sv:Value} {fl:Bool} (hw:xy T st xt l o c K) (hs:VR c ρ F h (.sl 0 [] fl) sv) (hp:aM E af p=none) (hq:bL E af p=none) (cW:bf E af p=none)
 (fin:∀v h',iF E h st xt sv (.int .i64 l)=some (v,h')→da E X.base af p h=some (.val v,h')):eZ E X ρ F o c af h p K:=by
 have Ji:∀m y,look o m=some y→m≠c:=fun m y hl=>by have:=H.lt hl;omega
 have e:sv= .slice none 0 0:=by
  cases hs with
  |nil=>rfl
  |sl q1 q2 q3=>omega
 subst e;unfold xy at hw;split at hw
 ·rename_i elem k hd MY;split at hw
  ·rename_i n bytes z hn Gf hz;obtain⟨jY,nS⟩:=L.zero _ _ hz;split at hw
   ·rename_i zs hc jy;simp only[Bool.and_eq_true,beq_iff,aS]at hc;obtain⟨⟨kp,tT⟩,Hy⟩:=hc;split at hw
    ·rename_i QZ;obtain⟨⟨b1,b2⟩,hK⟩:=hw;have lH:(l.toNat+1)*(bytes+1)≤1099511627776:=size_le om Hy;have rk:=fV (c:=c) (ρ:=ρ) (F:=F) (h:=h) nS jy;have Gn:zs.length=n:=by have:=rk.1;simp only[Array.length_toList]at this;omega
     have hE:=ER.replicate rk Gn QZ l.toNat
     obtain⟨M2,k2⟩:=H.Cp hE tT;have xn:iF E h st xt (.slice none 0 0) (.int .i64 l)=some (fresh h (aT z.cells.toList l.toNat) n l.toNat):=by
      unfold iF;rw[L.desc _ _ hd,L.desc _ _ MY];simp only[Option.bind_some,L.size _ _ hn,L.bytes _ _ Gf,jY];simp only[kM,kp,bF];rw[show Nat.beq n n=true from beq_iff.2 rfl,show Nat.blt 0 n=true from aS.2 tT,show Nat.blt 0 l.toNat=true from aS.2 om,aG.2 lH];rfl
     rw[List.length_replicate]at M2 k2;refine eZ.du H hp hq cW (fin _ _ xn) ⟨M2,k2,by show h.size≤h.size+1;omega,fun _ h=>h,fun b cs hb hr=>(ew H.wf.le _ (H.I7 hb)).trans hr⟩ ?_ (fun m y hl hm=>⟨?_,?_,fun b hb=>?_⟩) hK
     ·refine .tk om rfl (fun b z len hx=>?_) (fun z hx=>?_)
      ·rw[aI]at hx;cases hx;exact⟨_,om,rfl⟩
      ·rw[aI]at hx;cases hx
     ·rw[aN,if_neg (Ji m y hl).symm];exact⟨y,hl⟩
     ·rw[bj _ _ (Ji m y hl)]
     ·have:=H.xV hl hb;exact⟨by rw[ab.aq,if_neg om],fun cs hr=>by rw[ew H.wf.le _ this];exact hr⟩
    ·exact hw.elim
   ·exact hw.elim
  ·exact hw.elim
 ·exact hw.elim
theorem Hz (L:cm T E) (H:Mem X ρ F o c h) {st xt:TypeId} {s x:TV} {sv xv:Value} (hw:Ca T st xt s x o c K) (hs:VR c ρ F h s sv) (hx:VR c ρ F h x xv) (hp:aM E af p=none) (hq:bL E af p=none) (cW:bf E af p=none)
 (fin:∀v h',bI E X.base h st xt sv xv=some (v,h')→da E X.base af p h=some (.val v,h')):eZ E X ρ F o c af h p K:=by
 have w0:∀m y,look o m=some y→m∉([]:List Nat)→(∃y',look o m=some y')∧ρ m=ρ m:=fun m y hl _=>⟨⟨y,hl⟩,rfl⟩
 -- a slice without elements
 have emp:∀{z n:Nat},z=n∨z=0→VR c ρ F h (.sl z [] true) sv→sv= .slice none 0 0∨∃b oo cs,F b∧h.rd b=some cs∧oo≤cs.length∧sv= .slice (some ⟨b,oo,some n⟩) 0 0:=by
  intro z n hz hs;cases hs with
  |nil=>exact .inl rfl
  |sl q1 q2 q3 q4 q5 q6 q7 q8 q9 UB=>
   have RC:z=n:=by omega
   subst RC;simp at q4;subst q4;rw[q6 rfl];exact .inr ⟨_,_,_,q1,q2,om,rfl⟩
 have flq:∀{y:TO} {o1:Ob} {iw:Gh} {F1:Nat→Prop} {h1:ab},Mem X iw F1 ((c,y)::o1) (c+1) h1→∃F',Mem X iw F' ((c,y)::o1) (c+1) h1∧(∀t v,VR (c+1) iw F1 h1 t v→VR (c+1) iw F' h1 t v)∧∀b,F1 b→F' b:=
  fun {y o1 iw F1 h1} M=>⟨F1,M,fun _ _ h=>h,fun _ h=>h⟩
 have closed:∀{e:List TV},(∀t∈e,fz t=true)→∀t∈e,mD t=true:=fun {e} he t ht=>by
  have:=he t ht;unfold mD;split<;>first|rfl |exact this
 unfold Ca at hw;split at hw
 ·rename_i elem afw Yw MY;split at hw
  ·rename_i n bytes z0 zx xs hn Gf Cw Du;split at hw
   ·rename_i hc;simp only[Bool.and_eq_true,beq_iff,aS,Bool.or_eq_true]at hc;obtain⟨⟨⟨Wt,mK⟩,hzx⟩,Hy⟩:=hc;have size:∀{k:Nat},k<1048576→(k+1)*(bytes+1)≤1099511627776:=fun {k} hk=>size_le hk Hy;have A:CG E st xt elem n bytes:=⟨L.desc _ _ Yw,⟨_,L.desc _ _ MY⟩,L.size _ _ hn,L.bytes _ _ Gf,_,(L.zero _ _ Cw).1,Wt⟩;obtain⟨hlen,_,UI,kZ⟩:=py H Du (hzx.imp id fun h=>⟨h,rfl⟩) (by simp) hx
    have Wu:∀{iw:Gh} {F1:Nat→Prop} {o1:Ob},Mem X iw F1 o1 c h→∀new,(([]:List (Nat×List TV))=[]→ER c iw F1 h n xs new)→new.length=xs.length*n→(∀e∈xs,e.length=n)→dI c iw F1 h (cD xs []).flatten new→Mem X (ct iw c (some (.arr h.size n xs.length))) F1 ((c,.arr n true xs)::o1) (c+1) (h.push (.cells new h.size h.size 0))∧∀t v,VR c iw F1 h t v→VR (c+1) (ct iw c (some (.arr h.size n xs.length))) F1 (h.push (.cells new h.size h.size 0)) t v:=
     fun M1 new hE _ _ _=>M1.Cp (hE rfl) mK
    split at hw
    ·rename_i z;split at hw
     ·rename_i hz;simp only[Bool.or_eq_true,beq_iff]at hz;obtain⟨lH,hK⟩:=hw;exact kH H A mK hlen kZ fin hp hq cW H (fun _ _ h=>h) (fun _ h=>h) w0 (emp hz hs) (size lH) (fun e c ρ F m hm=>by subst e;exact .nil hm mK) (Wu H) flq hK
     ·exact hw.elim
    ·rename_i m;split at hw
     ·rename_i z w es hl;split at hw
      ·rename_i hz;rw[beq_iff]at hz;subst hz;obtain⟨Oy,hK⟩:=hw;have lH:=size Oy;obtain⟨S,K0⟩:=H.ex;have hO:=K0.b7 m _ hl;generalize hS:S m=Sm at hO;have AA:=hO.tk rfl hs;cases hO with
       |nil hb jY=>
        rcases AA with⟨_,_,qg⟩|⟨b,cap,h1,_⟩
        ·obtain⟨M1,k1⟩:=H.gone hl rfl;refine kH H (ns:=[m]) (y1:=.arr z true xs) (y2:=.arr z w xs) A mK hlen kZ fin hp hq cW M1 k1 (fun _ h=>h) (fun n y oN bc=>?_) (qg.imp id fun⟨b,o',cs,q1,q2,q3,q4,q5⟩=>⟨b,o',cs,q1,q2,q4,q5⟩) (by simpa using lH) (fun e c ρ F m hm=>by subst e;exact .nil hm mK) (Wu M1) (fun M=>M.flag w) (by simpa using hK);have nV:n≠m:=by simpa using bc
         exact⟨⟨y,by rw[dz,if_neg nV];exact oN⟩,bj _ _ nV⟩
        ·rw[hb]at h1;cases h1
       |arr hb hg hf ht dx jY cC mj gK hc hF=>
        rename_i b f t0 eX aQ cs;rcases AA with⟨_,h1,_⟩|⟨b',cap,h1,gC,rfl⟩
        ·rw[hb]at h1;cases h1
        ·rw[hb]at h1;cases h1;by_cases sm:xs.length=0
         ·have UH:xs=[]:=List.length_eq_zero_iff.1 sm;subst UH;obtain⟨M2,k2⟩:=H.rename hl hb
          have xn:bI E X.base h st xt (.slice (some ⟨b,0,some z⟩) es.length cap) xv=some (.slice (some ⟨b,0,some z⟩) es.length cap,h):=
           yb A rfl (by rintro l k e;cases e) (by rintro b oo sp l k e;cases e;rfl) hlen
          rw[List.append_nil]at hK;refine eZ.du H hp hq cW (fin _ _ xn) ⟨M2,k2,Nat.le_refl _,fun _ h=>h,fun _ _ _ hr=>hr⟩ ?_ (fun n y oN bc=>?_) hK
          ·refine .tk om rfl (fun b' z' len hx=>?_) (fun z hx=>?_)
           ·rw[aI]at hx;cases hx;exact⟨_,gC,rfl⟩
           ·rw[aI]at hx;cases hx
          ·obtain⟨q1,q2⟩:=sS H (y:=.arr z w es) (l:=some (.arr b z es.length)) n y oN bc;exact⟨q1,q2,fun b' _=>⟨rfl,fun _ hr=>hr⟩⟩
         ·rcases kZ with e|⟨new,ko,hE,w7,MX,hV⟩
          ·subst e;simp at sm
          ·have hEE:ER c ρ F h z (es++xs) (cs++new):=ER.append ⟨cC,mj,gK,hc⟩ (hE rfl);refine Hv H K0 (y2:=.arr z w (es++xs)) A hlen sm fin hp hq cW hl hS hb hg hf ht dx jY cC gC lH ko w7 ((hE rfl).dY jY) (.inr rfl) (fun hm qK cZ same hT HA kO zr RT ED QV=>?_) hK;exact OR.N6 (by rw[List.length_append];exact HA) kO zr RT ED jY (hEE.mono hm) QV
      ·exact hw.elim
     ·rename_i z es I1 hl;split at hw
      ·rename_i hz;rw[beq_iff]at hz;subst hz;obtain⟨Oy,hK⟩:=hw;have lH:=size Oy;obtain⟨S,K0⟩:=H.ex;have hO:=K0.b7 m _ hl;generalize hS:S m=Sm at hO;have AA:=hO.tk rfl hs;cases hO with
       |gF hb jY=>
        rcases AA with⟨_,_,qg⟩|⟨b,cap,h1,_⟩
        ·obtain⟨M1,k1⟩:=H.gone hl rfl;refine kH H (ns:=[m]) (y1:=.bx z xs []) (y2:=.bx z xs []) A mK hlen kZ fin hp hq cW M1 k1 (fun _ h=>h) (fun n y oN bc=>?_) (qg.imp id fun⟨b,o',cs,q1,q2,q3,q4,q5⟩=>⟨b,o',cs,q1,q2,q4,q5⟩) (by simpa using lH) (fun e c ρ F m hm=>by subst e;exact .gF hm mK) (fun new hE h1 h2 h3=>?_) flq (by simpa using hK)
         ·have nV:n≠m:=by simpa using bc
          exact⟨⟨y,by rw[dz,if_neg nV];exact oN⟩,bj _ _ nV⟩
         ·exact M1.G5 ⟨h1,h2,fun e he=>closed (UI e he),by simp,cI.kU h3⟩ mK
        ·rw[hb]at h1;cases h1
       |bx hb hg hf ht dx jY cC mj bT jA hc=>
        rename_i Sq b f t0 eX aQ cs;rcases AA with⟨_,h1,_⟩|⟨b',cap,h1,gC,rfl⟩
        ·rw[hb]at h1;cases h1
        ·rw[hb]at h1;cases h1;by_cases sm:xs.length=0
         ·have UH:xs=[]:=List.length_eq_zero_iff.1 sm;subst UH;obtain⟨M2,k2⟩:=H.rename hl hb
          have xn:bI E X.base h st xt (.slice (some ⟨b,0,some z⟩) es.length cap) xv=some (.slice (some ⟨b,0,some z⟩) es.length cap,h):=
           yb A rfl (by rintro l k e;cases e) (by rintro b oo sp l k e;cases e;rfl) hlen
          rw[List.append_nil]at hK;refine eZ.du H hp hq cW (fin _ _ xn) ⟨M2,k2,Nat.le_refl _,fun _ h=>h,fun _ _ _ hr=>hr⟩ ?_ (fun n y oN bc=>?_) hK
          ·refine .tk om rfl (fun b' z' len hx=>?_) (fun z hx=>?_)
           ·rw[aI]at hx;cases hx;exact⟨_,gC,rfl⟩
           ·rw[aI]at hx;cases hx
          ·obtain⟨q1,q2⟩:=sS H (y:=.bx z es I1) (l:=some (.arr b z es.length)) n y oN bc;exact⟨q1,q2,fun b' _=>⟨rfl,fun _ hr=>hr⟩⟩
         ·rcases kZ with e|⟨new,ko,hE,w7,MX,hV⟩
          ·subst e;simp at sm
          ·refine Hv H K0 (y2:=.bx z (es++xs) I1) A hlen sm fin hp hq cW hl hS hb hg hf ht dx jY cC gC lH ko w7 ((hE rfl).dY jY) (.inl rfl) (fun hm qK cZ same hT HA kO zr RT ED QV=>?_) hK;refine OR.We (by rw[List.length_append];exact HA) kO zr RT ED jY ⟨by simp[cC,w7,Nat.add_mul],fun e he=>?_,fun e he=>?_,fun p hp=>⟨by have:=(jA p hp).1;simp;omega,(jA p hp).2⟩,?_⟩
           ·rcases List.mem_append.1 he with h1|h1
            ·exact mj e h1
            ·exact MX e h1
           ·rcases List.mem_append.1 he with h1|h1
            ·exact bT e h1
            ·exact closed (UI e h1)
           ·have:=(hc.bl H.wf same qK cZ hm hT).join (cI.kU (base:=X.base) (hV.qJ hm));rw[List.append_nil]at this;rw[(Hu fun p hp=>(jA p hp).1).1,List.flatten_append];exact this
      ·exact hw.elim
     ·exact hw.elim
    ·rename_i m k;split at hw
     ·rename_i z es hl;split at hw
      ·rename_i hz;rw[beq_iff]at hz;subst hz;obtain⟨⟨YK,Oy,UH⟩,hK⟩:=hw;have lH:=size Oy;have sm:xs.length≠0:=fun e=>UH (List.length_eq_zero_iff.1 e);obtain⟨S,K0⟩:=H.ex;have hO:=K0.b7 m _ hl;generalize hS:S m=Sm at hO;cases hs with
       |pv Gj p5 ha h0=>
       cases hO with
       |nil hb jY=>
        have qg:=h0 _ hb;have Kp:k=0:=by simpa using YK
        subst Kp;obtain⟨M1,k1⟩:=H.gone hl rfl;refine kH H (ns:=[m]) (y1:=.arr z true xs) (y2:=.arr z true xs) A mK hlen kZ fin hp hq cW M1 k1 (fun _ h=>h) (fun n y hl bc=>?_) (qg.imp id fun⟨b,o',cs,q1,q2,q3,q4,q5⟩=>⟨b,o',cs,q1,q2,q4,q5⟩) (by simpa using lH) (fun e c ρ F m hm=>by subst e;exact .nil hm mK) (Wu M1) flq (by simpa using hK);have nV:n≠m:=by simpa using bc
        exact⟨⟨y,by rw[dz,if_neg nV];exact hl⟩,bj _ _ nV⟩
       |arr hb hg hf ht dx jY cC mj gK hc hF=>
        rename_i b f t0 eX aQ cs;obtain⟨cap,gC,rfl⟩:=ha _ _ _ hb;rcases kZ with e|⟨new,ko,hE,w7,MX,hV⟩
        ·exact absurd e UH
        ·have hkz:k*z≤cs.length:=by rw[cC];exact Nat.mul_le_mul_right _ YK
         have hEE:ER c ρ F h z (es.take k++xs) (cs.take (k*z)++new):=ER.append (ER.take ⟨cC,mj,gK,hc⟩ YK) (hE rfl);refine Jj H K0 (y2:=.arr z true (es.take k++xs)) A hlen sm fin hp hq cW hl hS hb hg hf ht dx jY hkz (.inr rfl) gC lH ko w7 ((hE rfl).dY jY) (.inl rfl) (fun hm qK cZ same hT HA kO zr RT ED QV=>?_) hK;exact OR.N6 (by rw[List.length_append,List.length_take,Nat.min_eq_left YK];exact HA) kO zr RT ED jY (hEE.mono hm) QV
      ·exact hw.elim
     ·exact hw.elim
    ·exact hw.elim
   ·exact hw.elim
  ·rename_i n bytes z0 zx xs q hn Gf Cw Du;split at hw
   ·rename_i hc;simp only[Bool.and_eq_true,beq_iff,aS]at hc;obtain⟨⟨⟨⟨Wt,mK⟩,rfl⟩,Hy⟩,nS,adz⟩:=hc;have size:∀{k:Nat},k<1048576→(k+1)*(bytes+1)≤1099511627776:=fun {k} hk=>size_le hk Hy;have A:CG E st xt elem zx bytes:=⟨L.desc _ _ Yw,⟨_,L.desc _ _ MY⟩,L.size _ _ hn,L.bytes _ _ Gf,_,(L.zero _ _ Cw).1,Wt⟩;obtain⟨hlen,aaj,UI,kZ⟩:=py H Du (.inl rfl) (by simpa using nS) hx;obtain⟨o1,o2⟩:=aaj q (by simp);have sm:xs.length≠0:=by omega
    have aak:∀{iw:Gh} {F1:Nat→Prop} {o1:Ob},Mem X iw F1 o1 c h→∀new,([q]=[]→ER c iw F1 h zx xs new)→new.length=xs.length*zx→(∀e∈xs,e.length=zx)→dI c iw F1 h (cD xs [q]).flatten new→Mem X (ct iw c (some (.arr h.size zx xs.length))) F1 ((c,.bx zx xs [q])::o1) (c+1) (h.push (.cells new h.size h.size 0))∧∀t v,VR c iw F1 h t v→VR (c+1) (ct iw c (some (.arr h.size zx xs.length))) F1 (h.push (.cells new h.size h.size 0)) t v:=
     fun M1 new _ h1 h2 h3=>M1.G5 ⟨h1,h2,fun e he=>closed (UI e he),aaj,cI.kU h3⟩ mK
    have aal:∀{new:List Value},dI c ρ F h (cD xs [q]).flatten new→new.length=xs.length*zx→new.all dY=true:=by
     intro new hV _;refine dI.aad hV fun t ht=>?_;obtain⟨e,h1,h2⟩:=List.mem_flatten.1 ht;rcases List.mem_or_eq_of_mem_set (show e∈xs.set q.1 q.2 from h1)with h3|rfl
     ·have:=UI e h3 t h2;cases t<;>first|rfl |simp[fz]at this
     ·exact List.all_eq_true.1 adz t h2
    -- to an array that is there
    have main:∀{es:List (List TV)} {I1:List (Nat×List TV)} {Sq:Ft} {S:Nat→Ft} {b f t0 eX aQ m cap:Nat} {cs:List Value} {y:TO},MO X ρ F o c h S→look o m=some y→S m=(f,true)::Sq→ρ m=some (.arr b zx es.length)→h.get b=some (.cells cs f t0 eX)→h.dr b=some (f,b,aQ)→aQ≤b→X.base≤f→cs.length=es.length*zx→es.length≤cap→sv= .slice (some ⟨b,0,some zx⟩) es.length cap→
     (∀e∈es,e.length=zx)→(∀e∈es,∀t∈e,mD t=true)→(∀p∈I1,p.1<es.length∧p.2.length=zx)→cI c ρ F h X.base Sq (cD es I1).flatten cs→es.length+xs.length<1048576→K (.tk c) ((c,.bx zx (es++xs) ((es.length+q.1,q.2)::I1))::fy o m) (c+1) (.du [m])→eZ E X ρ F o c af h p K:=by
     intro es I1 Sq S b f t0 eX aQ m cap cs y K0 hl hS hb hg hf ht dx cC gC qg mj bT jA hc lH hK;subst qg;rcases kZ with e|⟨new,ko,_,w7,MX,hV⟩
     ·subst e;simp at sm
     ·refine Hv H K0 (y2:=.bx zx (es++xs) ((es.length+q.1,q.2)::I1)) A hlen sm fin hp hq cW hl hS hb hg hf ht dx mK cC gC (size lH) ko w7 (aal hV w7) (.inl rfl) (fun hm qK cZ same hT HA kO zr RT ED QV=>?_) hK;refine OR.We (by rw[List.length_append];exact HA) kO zr RT ED mK ⟨by simp[cC,w7,Nat.add_mul],fun e he=>?_,fun e he=>?_,fun r hr=>?_,?_⟩
      ·rcases List.mem_append.1 he with h1|h1
       ·exact mj e h1
       ·exact MX e h1
      ·rcases List.mem_append.1 he with h1|h1
       ·exact bT e h1
       ·exact closed (UI e h1)
      ·rcases List.mem_cons.1 hr with rfl |hr
       ·exact⟨by simp;omega,o2⟩
       ·have:=jA r hr;exact⟨by simp;omega,this.2⟩
      ·have:=(hc.bl H.wf same qK cZ hm hT).join (cI.kU (base:=X.base) (hV.qJ hm));rw[List.append_nil]at this;rw[RO fun p hp=>(jA p hp).1,List.flatten_append];exact this
    split at hw
    ·rename_i z;split at hw
     ·rename_i hz;simp only[Bool.or_eq_true,beq_iff]at hz;obtain⟨lH,hK⟩:=hw;exact kH H A mK hlen kZ fin hp hq cW H (fun _ _ h=>h) (fun _ h=>h) w0 (emp hz hs) (size lH) (fun e=>by subst e;simp at sm) (aak H) flq hK
     ·exact hw.elim
    ·rename_i m;have Jk:∀{y:TO},look o m=some y→zK y=true→Er y=0→KG y=zx→(sv= .slice none 0 0∨∃b o cs,F b∧h.rd b=some cs∧0<KG y∧o≤cs.length∧sv= .slice (some ⟨b,o,some (KG y)⟩) 0 0)→xs.length<1048576→K (.tk c) ((c,.bx zx xs [q])::fy o m) (c+1) (.du [m])→eZ E X ρ F o c af h p K:=by
      intro y hl hy h0 hz qg lH hK;obtain⟨M1,k1⟩:=H.gone hl hy;refine kH H (ns:=[m]) (y1:=.bx zx xs [q]) (y2:=.bx zx xs [q]) A mK hlen kZ fin hp hq cW M1 k1 (fun _ h=>h) (fun n y oN bc=>?_) (qg.imp id fun⟨b,o',cs,q1,q2,q3,q4,q5⟩=>⟨b,o',cs,q1,q2,q4,by rw[←hz];exact q5⟩) (size lH) (fun e=>by subst e;simp at sm) (aak M1) flq hK;have nV:n≠m:=by simpa using bc
      exact⟨⟨y,by rw[dz,if_neg nV];exact oN⟩,bj _ _ nV⟩
     have Oz:wq 0 [q]=[q]:=by simp[wq]
     split at hw
     ·rename_i z es hl;split at hw
      ·rename_i hz;rw[beq_iff]at hz;subst hz;obtain⟨lH,hK⟩:=hw;obtain⟨S,K0⟩:=H.ex;have hO:=K0.b7 m _ hl;generalize hS:S m=Sm at hO;have AA:=hO.tk rfl hs;cases hO with
       |nil hb jY=>
        rcases AA with⟨h0,_,qg⟩|⟨b,cap,h1,_⟩
        ·exact Jk hl rfl h0 rfl qg (by simpa using lH) (by simpa[Oz]using hK)
        ·rw[hb]at h1;cases h1
       |arr hb hg hf ht dx jY cC mj gK hc hF=>
        rcases AA with⟨_,h1,_⟩|⟨b',cap,h1,gC,qg⟩
        ·rw[hb]at h1;cases h1
        ·rw[hb]at h1;cases h1;exact main (I1:=[]) K0 hl hS hb hg hf ht dx cC gC qg mj (fun e he=>closed (gK e he)) (by simp) (cI.kU (ik cC mj hc)) lH hK
      ·exact hw.elim
     ·rename_i z es I1 hl;split at hw
      ·rename_i hz;rw[beq_iff]at hz;subst hz;obtain⟨lH,hK⟩:=hw;obtain⟨S,K0⟩:=H.ex;have hO:=K0.b7 m _ hl;generalize hS:S m=Sm at hO;have AA:=hO.tk rfl hs;cases hO with
       |gF hb jY=>
        rcases AA with⟨h0,_,qg⟩|⟨b,cap,h1,_⟩
        ·exact Jk hl rfl h0 rfl qg (by simpa using lH) (by simpa[Oz]using hK)
        ·rw[hb]at h1;cases h1
       |bx hb hg hf ht dx jY cC mj bT jA hc=>
        rcases AA with⟨_,h1,_⟩|⟨b',cap,h1,gC,qg⟩
        ·rw[hb]at h1;cases h1
        ·rw[hb]at h1;cases h1;exact main K0 hl hS hb hg hf ht dx cC gC qg mj bT jA hc lH hK
      ·exact hw.elim
     ·exact hw.elim
    ·exact hw.elim
   ·exact hw.elim
  ·exact hw.elim
 ·exact hw.elim
end
section
variable {T E:Env} {X:Cx} {ρ:Gh} {F:Nat→Prop} {o:Ob} {c:Nat} {af:AF} {f:Fr} {h:ab} {p:Oper} {K:OK}
theorem mq:∀{ids:List (Option Nat)} {o:Ob} {n:Nat},(∀k:Nat,ids[k]? ≠some (some n))→look (ku ids o) n=look o n
 |[],o,n,_=>rfl
 |none::l,o,n,h=>mq (ids:=l) fun k=>by simpa using h (k+1)
 |some m::l,o,n,h=>by
  simp only[ku];rw[mq (ids:=l) fun k=>by simpa using h (k+1),dz,if_neg];intro e;subst e;exact h 0 rfl
theorem uC:∀{ids:List (Option Nat)} {n:Nat},n∉nR ids→∀k:Nat,ids[k]? ≠some (some n)
 |[],n,_,k=>by simp
 |none::l,n,h,k=>by
  cases k with
  |zero=>simp
  |succ k=>simpa using uC (ids:=l) h k
 |some m::l,n,h,k=>by
  simp only[nR,List.mem_cons,not_or]at h;cases k with
  |zero=>simp;exact fun e=>h.1 e.symm
  |succ k=>simpa using uC (ids:=l) h.2 k
theorem vy:∀(sh:List Nat) (o:Ob) (n:Nat) (y:TO),look o n=some y→∃y',look (M.ck sh o) n=some y'∧ee y y'
 |[],o,n,y,h=>⟨y,h,ee.refl _⟩
 |m::sh,o,n,y,h=>by
  obtain⟨y1,h1,h2⟩:=pr o m n y h;obtain⟨y2,h3,h4⟩:=vy sh _ n y1 h1;exact⟨y2,h3,h2.trans h4⟩
theorem jO (H:Mem X ρ F o c h) (sh:List Nat):∃F',px X ρ c h F o F' (M.ck sh o):=by
 obtain⟨F',h1,h2,h3⟩:=H.ck sh;exact⟨F',h1,h2,h3,vy sh o⟩
theorem vz:∀{U:List Nat} {o:Ob} {n:Nat},n∉U→look (vn U o) n=look o n
 |[],o,n,_=>rfl
 |m::l,o,n,h=>by
  simp only[List.mem_cons,not_or]at h;simp only[vn];rw[vz h.2,dz,if_neg h.1]
theorem OA (NX:G9 E X) (H:Mem X ρ F o c h) {g:FuncId} {args:List TV} {dX:List Value} {st:Bool} (bW:st=true→Hc E g) (hw:ow st (VC E) g args o c K) (ha:dI c ρ F h args dX) (hp:aM E af p=none) (hq:bL E af p=none) (cW:bf E af p=none)
 (he:da E X.base af p h=some (.enter g dX,h)):eZ E X ρ F o c af h p K:=by
 obtain⟨sh,ids,U,I4,o0,R,hvc,⟨ke,hO,hi⟩,hK⟩:=hw;simp only[Bool.and_eq_true]at hi;obtain⟨hi,hU⟩:=hi;obtain⟨F1,Sh⟩:=jO H sh;have H1:=Sh.mem;obtain⟨S,K1⟩:=H1.ex;obtain⟨S1,Ns,D⟩:=hO.told H1 K1 hi hU;obtain⟨hand,OB⟩:=H1.hand K1 D;have UJ:=Eg (zf:=G8 o0) H1 _ _ _ ke (ha.qJ Sh.bl);obtain⟨n0,v,h',ρ',F',r,o',c',gD,hR,MC,hr⟩:=hvc X.base _ F1 h S1 dX (NX.now H1) hand OB UJ;obtain⟨MM,k1,k2,k3⟩:=H1.merge K1 hi D MC;have fL:h.size≤h'.size:=MC.oH.size;have RU:Raw ρ o h (qy ids c ρ ρ') (G4 (back ids c) o'++vn U (ku ids (ck sh o))) h' (nR ids++U):=fun n y hl bc=>by
  simp only[List.mem_append,not_or]at bc;have hn:=uC bc.1;have Gj:=H.lt hl;obtain⟨y1,q1,q2⟩:=Sh.wk n y hl;have KD:=k3 n y1 q1 hn bc.2;refine⟨⟨y1,?_⟩,wv hn Gj,fun b hb=>?_⟩
  ·rw[jL];split
   ·rename_i y3 h3;obtain⟨k,y4,e1,_,_⟩:=ur (fun k k'=>xI hi) h3;exfalso;unfold back at e1;split at e1
    ·rename_i m hm;subst e1;exact hn k hm
    ·omega
   ·rw[vz bc.2,mq hn];exact q1
  ·obtain⟨II,hh⟩:=H1.CC K1 q1 hb;have Z9:¬mi S1 o0 (hd h b):=KD _ hh;have hg:=MC.oH.bl b II Z9;refine⟨hg,fun cs hr=>?_⟩;obtain⟨r,a1,a2,a3⟩:=rd_some hr;obtain⟨f1,t1,wW,o8⟩:=dJ a3;obtain⟨cr,jX⟩:=bO a1;obtain⟨ua,p1,p2,mI⟩:=dP a1;rw[o8]at mI;cases mI;have zt:=MC.oH.bl r.1 (H.wf.lt jX) (by
    have:hd h r.1=hd h b:=by rw[bZ jX,bZ o8]
    show¬mi S1 o0 (hd h r.1);rw[this];exact Z9)
   exact dD (bM (hg.trans o8) (zt.trans jX)) a2 (aB (hg.trans o8))
 refine⟨n0,⟨v,h',.du h h'⟩,r.mg (back ids c),_,_,_,F',V9 st o0 (nR ids++U),fun n hn=>?_,hK r o' c' hR,⟨MM,fun t x hx=>k1 t x (Sh.bl t x hx),fL,fun b hb=>MC.F0 b (Sh.FF b hb),fun b cs hb fP=>(MC.oH.cZ b (Sh.FF b hb)).trans fP⟩,k2 _ _ hr,?_⟩
 ·unfold eH;rw[hp,hq,cW,he];simp only
  rw[xO hn _ _ _ _ gD];rfl
 ·unfold V9;split
  ·rename_i hs;exact .oD RU (bW rfl _ _ _ _ _ _ gD)
  ·split
   ·rename_i BO;rw[BO]at RU;exact .oE RU fun b hb=>MC.oH.bl b hb fun⟨k,y,q,_⟩=>by simp[look]at q
   ·exact .du RU
end
end Go.M
