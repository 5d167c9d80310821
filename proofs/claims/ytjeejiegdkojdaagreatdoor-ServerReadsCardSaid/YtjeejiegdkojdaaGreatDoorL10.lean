/-
  Part 10 of the library that the proof leans on.
-/
import Derived.Test.YtjeejiegdkojdaaGreatDoorL9
namespace Go.M
open Go Go.ChangeShapes Go.WideShapes
section
variable {H:Type} {enc:TypeId×Value→H} {P:Program} {W:World} {base:Nat} {held:Bool}
theorem mapM_each {α β:Type} {f:α→Option β}:∀{l:List α} {r:List β},l.mapM f=some r→∀x∈l,∃y,f x=some y
 |[],_,_,x,hx=>by cases hx
 |a::l,r,h,x,hx=>by
  rw[List.mapM_cons]at h;simp only[Option.bind_eq_bind,Option.bind_eq_some_iff]at h;obtain⟨b,hb,r',hr,_⟩:=h;rcases List.mem_cons.1 hx with rfl |hx
  ·exact⟨b,hb⟩
  ·exact mapM_each hr x hx
theorem vB {f:TypeId→List Sh→Bool} {g:TypeId→List Value→Prop} (OT:∀t ss cs,f t ss=true→g t cs→Laid W ss cs):∀{xs:List Field} {o:Nat} {ss:List Sh} {cs:List Value},
 sW P f xs o ss=true→cs.length=o+ss.length→(∀x∈xs,g x.type ((cs.drop x.offset).take (P.cellsOf x.type)))→Laid W ss (cs.drop o)
 |[],o,ss,cs,h,hl,_=>by
  simp only[sW,List.isEmpty_iff]at h;subst h;rw[List.drop_of_length_le (by simp at hl;omega)];exact .nil W
 |x::xs,o,ss,cs,h,hl,hg=>by
  simp only[sW,Bool.and_eq_true,beq_iff,aG]at h;obtain⟨⟨⟨h1,h2⟩,h3⟩,h4⟩:=h;have k1:=OT _ _ _ h3 (hg x List.mem_cons_self);have k2:=vB OT h4 (cs:=cs) (by simp;omega) fun y hy=>hg y (List.mem_cons_of_mem _ hy);have:=k1.append k2;rw[List.take_append_drop,h1,←List.drop_drop,List.take_append_drop]at this;exact this
theorem EL {f:List Sh→Bool} {z:Nat} {g:List Value→Prop} (OT:∀ss cs,f ss=true→g cs→Laid W ss cs):∀{n k:Nat} {ss:List Sh} {cs:List Value},
 OO f z n ss=true→cs.length=k*z+ss.length→(∀i,i<n→g ((cs.drop ((k+i)*z)).take z))→Laid W ss (cs.drop (k*z))
 |0,k,ss,cs,h,hl,_=>by
  simp only[OO,List.isEmpty_iff]at h;subst h;rw[List.drop_of_length_le (by simp at hl;omega)];exact .nil W
 |n+1,k,ss,cs,h,hl,hg=>by
  simp only[OO,Bool.and_eq_true,aG]at h;obtain⟨⟨h1,h2⟩,h3⟩:=h;have k1:=OT _ _ h2 (hg 0 om);have k2:=EL (n:=n) (k:=k+1) OT h3 (cs:=cs) (by simp[Nat.succ_mul];omega) fun i hi=>by
   have:=hg (i+1) om
   rwa [show k+(i+1)=k+1+i by omega]at this
  have:=k1.append k2;rw[List.take_append_drop,Nat.add_zero,Nat.succ_mul,←List.drop_drop,List.take_append_drop]at this;exact this
theorem KY:∀(n:Nat) (t:TypeId) (ss:List Sh),Q5 P n t ss=true→∀(fuel:Nat) (cs:List Value) (r:DataW H×List MemPlace),DataW.trod enc P W base (fun _=>true) held fuel t cs=some r→Laid W ss cs:=by
 intro n
 induction n with
 |zero=>intro t ss h;cases h
 |succ n ih=>
  intro t ss h fuel cs r hr;cases fuel with
  |zero=>cases hr
  |succ fuel=>
   unfold Q5 at h;unfold DataW.trod at hr;split at h
   ·rename_i hu;rw[hu]at hr;split at h
    ·split at hr<;>first|cases hr|skip
     all_goals first|(rename_i heq;cases heq;done)|skip
     all_goals exact .scalar rfl (by simp only[Fit];exact⟨_,rfl⟩)
    ·cases h
   ·rename_i k hu;rw[hu]at hr;split at h
    ·rename_i k';have hk:=of_decide_eq_true h;subst hk;split at hr<;>first|cases hr|skip
     all_goals try(rename_i heq;cases heq;done)
     rename_i k2 k3 m heq;cases heq;split at hr
     ·rename_i hc;obtain⟨rfl,hw⟩:=hc;refine .scalar rfl ?_;simp only[Lit.wf,Bool.and_eq_true,decide_eq_true_eq]at hw;simp only[Fit];exact⟨m,hw.1,hw.2,rfl⟩
     ·cases hr
    ·cases h
   ·rename_i hu;rw[hu]at hr;split at h
    ·split at hr<;>first|cases hr|skip
     all_goals try(rename_i heq;cases heq;done)
     split at hr
     ·rename_i hc;refine .scalar rfl ?_;simp only[Fit];exact⟨_,hc,rfl⟩
     ·cases hr
    ·cases h
   ·rename_i e hu;rw[hu]at hr;split at h
    ·rename_i es;simp only[Bool.and_eq_true,beq_iff,aS]at h;obtain⟨⟨h1,h2⟩,h3⟩:=h;split at hr<;>first|cases hr|skip
     all_goals try(rename_i heq;cases heq;done)
     ·intro μ h H;refine⟨μ,h,[.sl es.length [] false],[.slice none 0 0],H,μ.le_refl,.refl h,?_,.cons (.nil rfl) .nil,.cons (.lit rfl) .nil⟩;simp only[Fits,Fit];exact⟨_,_,rfl,⟨[],by simp,by simp,rfl⟩,rfl⟩
     ·rename_i e' a len cap heq;cases heq;simp only[]at hr;split at hr
      ·rename_i hc;obtain⟨c1,c2,c3⟩:=hc;simp only[if_true,Option.bind_eq_some_iff,Option.map_eq_some_iff]at hr;obtain⟨elems,vu,rest,KZ,_⟩:=hr;refine .slice h2 c2 c3 (base:=base) fun i hi=>?_;have hx:∃y,((W.cells? base (a.add (i*P.cellsOf e)) (P.cellsOf e)).bind (DataW.trod enc P W base (fun _=>true) held fuel e))=some y:=by
        by_cases hil:i<len
        ·exact mapM_each vu i (by simp[hil])
        ·obtain⟨y,hy⟩:=mapM_each KZ (i - len) (by simp;omega);rw[show len+(i - len)=i by omega]at hy;exact⟨y,hy⟩
       obtain⟨y,hy⟩:=hx;simp only[Option.bind_eq_some_iff]at hy;obtain⟨r,jX,pX⟩:=hy;rw[h1]at jX;exact⟨r,jX,fun _=>ih e es h3 fuel r y pX⟩
      ·cases hr
    ·cases h
   ·rename_i fs hu;rw[hu]at hr;simp only[Bool.and_eq_true,beq_iff]at h;obtain⟨h1,h2⟩:=h
    replace hr:(if cs.length=P.cellsOf t then(fs.toList.mapM fun f=>DataW.trod enc P W base (fun _=>true) held fuel f.type ((cs.drop f.offset).take (P.cellsOf f.type))).map fun xs=>(DataW.agg (xs.map (·.1)),xs.flatMap (·.2))else none)=some r:=hr
    split at hr
    ·rename_i hc;simp only[Option.map_eq_some_iff]at hr;obtain⟨xs,MQ,_⟩:=hr
     have:=vB (f:=Q5 P n) (g:=fun u l=>∃y,DataW.trod enc P W base (fun _=>true) held fuel u l=some y) (W:=W) (fun u ON cs' q1 q2=>let⟨y,hy⟩:=q2;ih u ON q1 fuel cs' y hy) h2 (cs:=cs)
      om fun x hx=>mapM_each MQ x hx
     simpa using this
    ·cases hr
   ·rename_i m e hu;rw[hu]at hr;simp only[Bool.and_eq_true,beq_iff]at h;obtain⟨h1,h2⟩:=h
    replace hr:(if cs.length=P.cellsOf t then((List.range m).mapM fun i=>DataW.trod enc P W base (fun _=>true) held fuel e ((cs.drop (i*P.cellsOf e)).take (P.cellsOf e))).map fun xs=>(DataW.agg (xs.map (·.1)),xs.flatMap (·.2))else none)=some r:=hr
    split at hr
    ·rename_i hc;simp only[Option.map_eq_some_iff]at hr;obtain⟨xs,MQ,_⟩:=hr
     have:=EL (f:=Q5 P n e) (z:=P.cellsOf e) (g:=fun l=>∃y,DataW.trod enc P W base (fun _=>true) held fuel e l=some y) (W:=W) (fun ON cs' q1 q2=>let⟨y,hy⟩:=q2;ih e ON q1 fuel cs' y hy) (k:=0) h2 (cs:=cs)
      om fun i hi=>by
       have:=mapM_each MQ i (by simp[hi]);rw[Nat.zero_add];exact this
     simpa using this
    ·cases hr
   ·cases h
end
structure vC where
 many:Bool
 sh:List Sh
def WJ:vC→TV→Prop
 |⟨true,ss⟩,t=>∃l,t= .agg l∧Fits ss l
 |⟨false,ss⟩,t=>Fits ss [t]
def EM:List vC→List TV→Prop
 |[],l=>l=[]
 |a::Jo,l=>∃t r,l=t::r∧WJ a t∧EM Jo r
def Jp (P:Program) (t:TypeId):Bool:=match P.underlying t with
 |some (.struct _)|some (.array _ _)=>true
 |_=>false
def WK (P:Program) (t:TypeId) (a:vC):Bool:=(Jp P t==a.many)&&Q5 P 100 t a.sh
def AK (P:Program):List TypeId→List vC→Bool
 |[],[]=>true
 |t::ts,a::Jo=>WK P t a&&AK P ts Jo
 |_,_=>false
section
variable {H:Type} {enc:TypeId×Value→H} {P:Program} {W:World} {base:Nat} {held:Bool}
theorem WL {r:Reach} {t:TypeId} {ss:List Sh} {v:Value} {n:Nat} (hs:Q5 P n t ss=true) (hm:Jp P t=false) (h:Value.okWide P W r base t v):v.cells= #[v]:=by
 cases v with
 |agg cs=>
  exfalso;cases n with
  |zero=>cases hs
  |succ n=>
   unfold Q5 at hs;unfold Jp at hm;unfold Value.okWide Cell.okWide Cell.ok at h;split at hs<;>rename_i hu<;>simp[hu]at h hm
 |_=>rfl
theorem OU {base':Nat} {r:Reach} {t:TypeId} {a:vC} {v:Value} {d:DataW H} {p:List MemPlace} (ha:WK P t a=true) (hd:DataW.Trod enc P W base (fun _=>true) held t v d p) (hv:Value.okWide P W r base' t v) (μ:bn) (h:ab) (A:AR W μ h):
 ∃aU h' tv v0,AR W aU h'∧μ.le aU∧Grown h h'∧WJ a tv∧VR 0 um (· <h'.size) h' tv v0∧au aU v0 v:=by
 unfold WK at ha;simp only[Bool.and_eq_true,beq_iff_eq]at ha;obtain⟨hm,hs⟩:=ha;obtain⟨fuel,hd⟩:=hd;have L:=KY 100 t a.sh hs fuel _ _ hd;obtain⟨aU,h',AJ,vs,A',l',g',f',r',x'⟩:=L μ h A;obtain⟨m,ss⟩:=a;cases m with
 |true=>
  obtain⟨cs,rfl⟩:∃cs,v= .agg cs:=by
   unfold Jp at hm;unfold Value.okWide at hv;split at hm
   ·rename_i hu;simp only[hu]at hv;obtain⟨cs,rfl,_⟩:=hv;exact⟨cs,rfl⟩
   ·rename_i hu;simp only[hu]at hv;obtain⟨cs,rfl,_⟩:=hv;exact⟨cs,rfl⟩
   ·cases hm
  refine⟨aU,h',.agg AJ,.agg vs.toArray,A',l',g',⟨AJ,rfl,f'⟩,VR.gz (by simpa using r'),au.gz (by simpa[Value.cells]using x')⟩
 |false=>
  have hc:=WL hs hm hv;rw[hc]at x';cases x' with
  |cons hx ht=>
   cases ht;obtain⟨tv,rfl⟩:∃tv,AJ=[tv]:=by
    have:=r'.1
    match AJ,this with
    |[tv],_=>exact⟨tv,rfl⟩
   exact⟨aU,h',tv,_,A',l',g',f',r'.head,hx⟩
theorem AL {base':Nat} {r:Reach}:∀{ts:List TypeId} {Jo:List vC} {vs:List Value} {ds:List (DataW H)} {ps:List MemPlace},AK P ts Jo=true→DataW.TrodAll enc P W base (fun _=>true) held ts vs ds ps→
 (∀(j:Nat) t v,ts[j]? =some t→vs[j]? =some v→Value.okWide P W r base' t v)→∀μ h,AR W μ h→
 ∃aU h' AJ WM,AR W aU h'∧μ.le aU∧Grown h h'∧EM Jo AJ∧dI 0 um (· <h'.size) h' AJ WM∧ay aU WM vs
 |[],[],[],ds,ps,_,_,_,μ,h,A=>⟨μ,h,[],[],A,μ.le_refl,.refl h,rfl,.nil,.nil⟩
 |t::ts,a::Jo,v::vs,d::ds,ps,hB,hT,hv,μ,h,A=>by
  simp only[AK,Bool.and_eq_true]at hB;obtain⟨p,q,h1,h2,_⟩:=hT;obtain⟨fQ,k1,tv,v0,A1,l1,g1,f1,r1,x1⟩:=OU hB.1 h1 (hv 0 t v rfl rfl) μ h A;obtain⟨uY,k2,AJ,WM,A2,l2,g2,f2,r2,x2⟩:=AL hB.2 h2 (fun j t v a b=>hv (j+1) t v (by simpa using a) (by simpa using b)) fQ k1 A1;exact⟨uY,k2,tv::AJ,v0::WM,A2,bn.le_trans l1 l2,g1.trans g2,⟨_,_,rfl,f1,f2⟩,.cons (A1.wF A2 g2 r1) r2,.cons (x1.mono l2) x2⟩
 |[],a::Jo,_,_,_,hB,_,_,_,_,_=>by simp[AK]at hB
 |t::ts,[],_,_,_,hB,_,_,_,_,_=>by simp[AK]at hB
 |[],[],v::vs,_,_,_,hT,_,_,_,_=>by simp[DataW.TrodAll]at hT
 |t::ts,a::Jo,[],_,_,_,hT,_,_,_,_=>by simp[DataW.TrodAll]at hT
 |t::ts,a::Jo,v::vs,[],_,_,hT,_,_,_,_=>by simp[DataW.TrodAll]at hT
theorem AR.wf {μ:bn} {h:ab} (A:AR W μ h):∀b cs f cA aQ,h.get b=some (.cells cs f cA aQ)→f≤b:=fun b cs f cA aQ hg=>by
 have hb:b<h.size:=by
  rcases Nat.lt_or_ge b h.size with h1|h1
  ·exact h1
  ·rw[A.high b h1]at hg;cases hg
 obtain⟨cs',h1⟩:=A.all b hb;rw[hg]at h1;cases h1;exact Nat.le_refl _
theorem AR.oZ {E:Env} {μ:bn} {h:ab} (A:AR W μ h) (hg:∀g,E.dc g=false):bh E h.size W.heap.size μ h W where
 gh:=A.gh
 high:=A.high
 obj:=fun b m hb=>by
  obtain⟨cs,c,e,fr,h1,h2,h3,h4,h5⟩:=A.obj b m hb;exact⟨_,_,h1,h2,.cells h3 h4 (fun hx=>absurd (A.gh b m hb) om) fun _=>h5⟩
 own:=fun b m hb hx=>absurd (A.gh b m hb) om
 alias:=fun b1 b2 m1 m2 h1 h2 _ _ hx=>by
  have:=A.gh b1 m1 h1;have:=A.gh b2 m2 h2;omega
 dr:=fun b m r hb hf=>by
  obtain⟨cs,c,e,fr,h1,_⟩:=A.obj b m hb;rw[bM h1 h1]at hf;cases hf;exact⟨Nat.le_succ _,Nat.le_refl _,m,hb⟩
 dc:=fun g h=>by rw[hg g]at h;cases h
 low:=Nat.le_refl _
 l5:=Nat.le_refl _
 wf:=A.wf
 root:=fun b m cs aQ hb hg=>by
  obtain⟨cs',kO⟩:=A.all b (A.gh b m hb);rw[kO,Option.some.injEq,fi.cells.injEq]at hg;omega
theorem AR.mo {h:ab}:MO (zy h.size um (· <h.size) [] 0 h fun _=>[]) um (· <h.size) [] 0 h fun _=>[]:=
 ⟨fun m y hl=>(by cases hl),fun m y hl=>(by cases hl),fun m1 m2 y1 y2 x h1=>(by cases h1),fun m y x hl=>(by cases hl),fun m y x b hl=>(by cases hl)⟩
theorem AR.mem {μ:bn} {h:ab} (A:AR W μ h):Mem (zy h.size um (· <h.size) [] 0 h fun _=>[]) um (· <h.size) [] 0 h where
 ex:=⟨_,AR.mo⟩
 names:=fun m l hl=>by cases hl
 frozen:=fun b hb=>by
  obtain⟨cs,hg⟩:=A.all b hb;rw[A.rd hg];rfl
 F0:=fun _ hb=>hb
 wf:=⟨A.high,A.wf⟩
 oH:=.refl _ _ _
 l5:=Nat.le_refl _
 Co:=fun b hb=>.inl hb
 zJ:=⟨Nat.le_refl _,fun _ _ _ hl=>hl,fun _ _ _ hl=>hl⟩
end
end Go.M
