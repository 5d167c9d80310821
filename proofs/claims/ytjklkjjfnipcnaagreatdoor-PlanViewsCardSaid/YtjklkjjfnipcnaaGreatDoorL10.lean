/-
  Part 10 of the library that the proof leans on.
-/
import Derived.Test.YtjklkjjfnipcnaaGreatDoorL9
noncomputable section
namespace Go.M
open Go Go.ChangeShapes Go.WideShapes
section
variable {H:Type} {enc:TypeId×Value→H} {P:Program} {W:World} {base:Nat} {held:Bool}
theorem mapM_each {α β:Type} {f:α→Option β}:∀{l:List α} {r:List β},l.mapM f=some r→∀x∈l,∃y,f x=some y∧y∈r
 |[],_,_,x,hx=>by cases hx
 |a::l,r,h,x,hx=>by
  rw[List.mapM_cons]at h;simp only[Option.bind_eq_bind,Option.bind_eq_some_iff]at h;obtain⟨b,hb,r',hr,e⟩:=h;cases e;rcases List.mem_cons.1 hx with rfl |hx
  ·exact⟨b,hb,List.mem_cons_self⟩
  ·obtain⟨y,q1,q2⟩:=mapM_each hr x hx;exact⟨y,q1,List.mem_cons_of_mem _ q2⟩
theorem Bd {α β:Type} {f:α→Option β}:∀{l:List α} {r:List β},l.mapM f=some r→r.length=l.length
 |[],r,h=>by rw[List.mapM_nil]at h;cases h;rfl
 |a::l,r,h=>by
  rw[List.mapM_cons]at h;simp only[Option.bind_eq_bind,Option.bind_eq_some_iff]at h;obtain⟨b,hb,r',hr,e⟩:=h;cases e;rw[List.length_cons,List.length_cons,Bd hr]
def kF (P:Program) (t:TypeId) (d:DataW H):Prop:=∀x∈d.weights P t,x≤reachBytes
theorem nR {P:Program} {e:TypeId}:∀{l:List (DataW H)},(∀x∈DataW.weightsAll P e l,x≤reachBytes)→∀d∈l,kF P e d
 |[],_,d,hd=>by cases hd
 |a::l,h,d,hd=>by
  rw[DataW.weightsAll]at h;rcases List.mem_cons.1 hd with rfl |hd
  ·exact fun x hx=>h x (List.mem_append_left _ hx)
  ·exact nR (l:=l) (fun x hx=>h x (List.mem_append_right _ hx)) d hd
theorem xD {P:Program} {β:Type} {f:Field→Option (DataW H×β)}:∀{fs:List Field} {xs:List (DataW H×β)},fs.mapM f=some xs→(∀x∈DataW.weightsEach P (fs.map (·.type)) (xs.map (·.1)),x≤reachBytes)→∀x∈fs,∃y,f x=some y∧kF P x.type y.1
 |[],_,_,_,x,hx=>by cases hx
 |a::fs,xs,h,hw,x,hx=>by
  rw[List.mapM_cons]at h;simp only[Option.bind_eq_bind,Option.bind_eq_some_iff]at h;obtain⟨b,hb,r',hr,e⟩:=h;cases e;simp only[List.map_cons]at hw;rw[DataW.weightsEach]at hw;rcases List.mem_cons.1 hx with rfl |hx
  ·exact⟨b,hb,fun y hy=>hw y (List.mem_append_left _ hy)⟩
  ·exact xD hr (fun y hy=>hw y (List.mem_append_right _ hy)) x hx
theorem su {f:TypeId→List Sh→Bool} {g:TypeId→List Value→Prop} (QC:∀t ss cs,f t ss=true→g t cs→Laid W ss cs):∀{xs:List Field} {o:Nat} {ss:List Sh} {cs:List Value},
 qj P f xs o ss=true→cs.length=o+ss.length→(∀x∈xs,g x.type ((cs.drop x.offset).take (P.cellsOf x.type)))→Laid W ss (cs.drop o)
 |[],o,ss,cs,h,hl,_=>by
  simp only[qj,List.isEmpty_iff]at h;subst h;rw[List.drop_of_length_le (by simp at hl;omega)];exact .nil W
 |x::xs,o,ss,cs,h,hl,hg=>by
  simp only[qj,Bool.and_eq_true,beq_iff,ax]at h;obtain⟨⟨⟨h1,h2⟩,h3⟩,h4⟩:=h;have k1:=QC _ _ _ h3 (hg x List.mem_cons_self);have k2:=su QC h4 (cs:=cs) (by simp;omega) fun y hy=>hg y (List.mem_cons_of_mem _ hy);have:=k1.append k2;rw[List.take_append_drop,h1,←List.drop_drop,List.take_append_drop]at this;exact this
theorem Be {f:List Sh→Bool} {z:Nat} {g:List Value→Prop} (QC:∀ss cs,f ss=true→g cs→Laid W ss cs):∀{n k:Nat} {ss:List Sh} {cs:List Value},
 H7 f z n ss=true→cs.length=k*z+ss.length→(∀i,i<n→g ((cs.drop ((k+i)*z)).take z))→Laid W ss (cs.drop (k*z))
 |0,k,ss,cs,h,hl,_=>by
  simp only[H7,List.isEmpty_iff]at h;subst h;rw[List.drop_of_length_le (by simp at hl;omega)];exact .nil W
 |n+1,k,ss,cs,h,hl,hg=>by
  simp only[H7,Bool.and_eq_true,ax]at h;obtain⟨⟨h1,h2⟩,h3⟩:=h;have k1:=QC _ _ h2 (hg 0 om);have k2:=Be (n:=n) (k:=k+1) QC h3 (cs:=cs) (by simp[Nat.succ_mul];omega) fun i hi=>by
   have:=hg (i+1) om
   rwa [show k+(i+1)=k+1+i by omega]at this
  have:=k1.append k2;rw[List.take_append_drop,Nat.add_zero,Nat.succ_mul,←List.drop_drop,List.take_append_drop]at this;exact this
theorem Fy:∀(n:Nat) (t:TypeId) (ss:List Sh),JM P n t ss=true→∀(fuel:Nat) (cs:List Value) (r:DataW H×List MemPlace),DataW.trod enc P W base (fun _=>true) held fuel t cs=some r→kF P t r.1→Laid W ss cs:=by
 intro n
 induction n with
 |zero=>intro t ss h;cases h
 |succ n ih=>
  intro t ss h fuel cs r hr Gw;cases fuel with
  |zero=>cases hr
  |succ fuel=>
   unfold JM at h;unfold DataW.trod at hr;split at h
   ·rename_i hu;rw[hu]at hr;split at h
    ·split at hr<;>first|cases hr|skip
     all_goals first|(rename_i heq;cases heq;done)|skip
     all_goals exact .scalar rfl (by simp only[Fit];exact⟨_,rfl⟩)
    ·cases h
   ·rename_i k hu;rw[hu]at hr;split at h
    ·rename_i k';have hk:=of_decide_eq_true h;subst hk;split at hr<;>first|cases hr|skip
     all_goals try(rename_i heq;cases heq;done)
     rename_i k2 k3 m heq;cases heq;split at hr
     ·rename_i hc;obtain⟨rfl,hw⟩:=hc;refine .scalar rfl ?_;simp only[Lit.wf,Bool.and_eq_true,decide_eq_true_eq]at hw;simp only[Fit];exact⟨m,hw.1,hw.2,rfl⟩
     ·cases hr
    ·cases h
   ·rename_i hu;rw[hu]at hr;split at h
    ·split at hr<;>first|cases hr|skip
     all_goals try(rename_i heq;cases heq;done)
     split at hr
     ·rename_i hc;refine .scalar rfl ?_;simp only[Fit];exact⟨_,hc,rfl⟩
     ·cases hr
    ·cases h
   ·rename_i e hu;rw[hu]at hr;split at h
    ·rename_i es;simp only[Bool.and_eq_true,beq_iff,aF]at h;obtain⟨⟨h1,h2,zF⟩,h3⟩:=h;split at hr<;>first|cases hr|skip
     all_goals try(rename_i heq;cases heq;done)
     ·intro μ h H;refine⟨μ,h,[.sl es.length [] false],[.slice none 0 0],H,μ.le_refl,.refl h,?_,.cons (.nil rfl) .nil,.cons (.lit rfl) .nil⟩;simp only[Fits,Fit];exact⟨_,_,rfl,⟨[],by simp,by simp,rfl⟩,rfl⟩
     ·rename_i e' a len cap heq;cases heq;simp only[]at hr;split at hr
      ·rename_i hc;obtain⟨c1,c2,c3⟩:=hc;simp only[if_true,Option.bind_eq_some_iff,Option.map_eq_some_iff]at hr;obtain⟨elems,AH,rest,WN,er⟩:=hr;have Nq:∀x∈((elems.map (·.1)).length+(rest.map (·.1)).length)*P.bytesOf e::(DataW.weightsAll P e (elems.map (·.1))++DataW.weightsAll P e (rest.map (·.1))),x≤reachBytes:=by
        rw[←er]at Gw;unfold kF at Gw;rw[DataW.weights,hu]at Gw;exact Gw
       have hlen:len≤reachBytes:=by
        have h8:=Nq _ List.mem_cons_self;have h9:=Bd AH;rw[List.length_range]at h9;rw[List.length_map,h9]at h8;have:len*1≤(len+(rest.map (·.1)).length)*P.bytesOf e:=Nat.mul_le_mul om zF;omega
       refine .slice h2 c2 hlen (base:=base) fun i hi=>?_;have hx:∃y,((W.cells? base (a.add (i*P.cellsOf e)) (P.cellsOf e)).bind (DataW.trod enc P W base (fun _=>true) held fuel e))=some y∧kF P e y.1:=by
        by_cases WO:i<len
        ·obtain⟨y,q1,q2⟩:=mapM_each AH i (by simp[WO]);exact⟨y,q1,nR (fun x hx=>Nq x (List.mem_cons_of_mem _ (List.mem_append_left _ hx))) _ (List.mem_map.2 ⟨y,q2,rfl⟩)⟩
        ·obtain⟨y,hy,q2⟩:=mapM_each WN (i - len) (by simp;omega);rw[show len+(i - len)=i by omega]at hy;exact⟨y,hy,nR (fun x hx=>Nq x (List.mem_cons_of_mem _ (List.mem_append_right _ hx))) _ (List.mem_map.2 ⟨y,q2,rfl⟩)⟩
       obtain⟨y,hy,Sf⟩:=hx;simp only[Option.bind_eq_some_iff]at hy;obtain⟨r,gG,qC⟩:=hy;rw[h1]at gG;exact⟨r,gG,fun _=>ih e es h3 fuel r y qC Sf⟩
      ·cases hr
    ·cases h
   ·rename_i fs hu;rw[hu]at hr;simp only[Bool.and_eq_true,beq_iff]at h;obtain⟨h1,h2⟩:=h
    replace hr:(if cs.length=P.cellsOf t then(fs.toList.mapM fun f=>DataW.trod enc P W base (fun _=>true) held fuel f.type ((cs.drop f.offset).take (P.cellsOf f.type))).map fun xs=>(DataW.agg (xs.map (·.1)),xs.flatMap (·.2))else none)=some r:=hr
    split at hr
    ·rename_i hc;simp only[Option.map_eq_some_iff]at hr;obtain⟨xs,Dw,er⟩:=hr;have Nq:∀x∈DataW.weightsEach P (fs.toList.map (·.type)) (xs.map (·.1)),x≤reachBytes:=by
      rw[←er]at Gw;unfold kF at Gw;rw[DataW.weights,hu]at Gw;exact Gw
     have:=su (f:=JM P n) (g:=fun u l=>∃y,DataW.trod enc P W base (fun _=>true) held fuel u l=some y∧kF P u y.1) (W:=W) (fun u H6 cs' q1 q2=>let⟨y,hy,hs⟩:=q2;ih u H6 q1 fuel cs' y hy hs) h2 (cs:=cs)
      om fun x hx=>xD Dw Nq x hx
     simpa using this
    ·cases hr
   ·rename_i m e hu;rw[hu]at hr;simp only[Bool.and_eq_true,beq_iff]at h;obtain⟨h1,h2⟩:=h
    replace hr:(if cs.length=P.cellsOf t then((List.range m).mapM fun i=>DataW.trod enc P W base (fun _=>true) held fuel e ((cs.drop (i*P.cellsOf e)).take (P.cellsOf e))).map fun xs=>(DataW.agg (xs.map (·.1)),xs.flatMap (·.2))else none)=some r:=hr
    split at hr
    ·rename_i hc;simp only[Option.map_eq_some_iff]at hr;obtain⟨xs,Dw,er⟩:=hr;have Nq:∀x∈DataW.weightsAll P e (xs.map (·.1)),x≤reachBytes:=by
      rw[←er]at Gw;unfold kF at Gw;rw[DataW.weights,hu]at Gw;exact Gw
     have:=Be (f:=JM P n e) (z:=P.cellsOf e) (g:=fun l=>∃y,DataW.trod enc P W base (fun _=>true) held fuel e l=some y∧kF P e y.1) (W:=W) (fun H6 cs' q1 q2=>let⟨y,hy,hs⟩:=q2;ih e H6 q1 fuel cs' y hy hs) (k:=0) h2 (cs:=cs)
      om fun i hi=>by
       obtain⟨y,q1,q2⟩:=mapM_each Dw i (by simp[hi]);rw[Nat.zero_add];exact⟨y,q1,nR Nq _ (List.mem_map.2 ⟨y,q2,rfl⟩)⟩
     simpa using this
    ·cases hr
   ·cases h
end
structure sw where
 many:Bool
 sh:List Sh
def Nr:sw→TV→Prop
 |⟨true,ss⟩,t=>∃l,t= .agg l∧Fits ss l
 |⟨false,ss⟩,t=>Fits ss [t]
def Bf:List sw→List TV→Prop
 |[],l=>l=[]
 |a::D2,l=>∃t r,l=t::r∧Nr a t∧Bf D2 r
def D3 (P:Program) (t:TypeId):Bool:=match P.underlying t with
 |some (.struct _)|some (.array _ _)=>true
 |_=>false
def Nt (P:Program) (t:TypeId) (a:sw):Bool:=(D3 P t==a.many)&&JM P 100 t a.sh
def xE (P:Program):List TypeId→List sw→Bool
 |[],[]=>true
 |t::ts,a::D2=>Nt P t a&&xE P ts D2
 |_,_=>false
section
variable {H:Type} {enc:TypeId×Value→H} {P:Program} {W:World} {base:Nat} {held:Bool}
theorem Nu {r:Reach} {t:TypeId} {ss:List Sh} {v:Value} {n:Nat} (hs:JM P n t ss=true) (hm:D3 P t=false) (h:Value.okWide P W r base t v):v.cells= #[v]:=by
 cases v with
 |agg cs=>
  exfalso;cases n with
  |zero=>cases hs
  |succ n=>
   unfold JM at hs;unfold D3 at hm;unfold Value.okWide Cell.okWide Cell.ok at h;split at hs<;>rename_i hu<;>simp[hu]at h hm
 |_=>rfl
theorem Ib {base':Nat} {r:Reach} {t:TypeId} {a:sw} {v:Value} {d:DataW H} {p:List MemPlace} (ha:Nt P t a=true) (hd:DataW.Trod enc P W base (fun _=>true) held t v d p) (hv:Value.okWide P W r base' t v) (hz:kF P t d) (μ:aS) (h:ab) (A:AR W μ h):
 ∃az h' tv v0,AR W az h'∧μ.le az∧Grown h h'∧Nr a tv∧VR 0 qR (· <h'.size) h' tv v0∧ak az v0 v:=by
 unfold Nt at ha;simp only[Bool.and_eq_true,beq_iff_eq]at ha;obtain⟨hm,hs⟩:=ha;obtain⟨fuel,hd⟩:=hd;have L:=Fy 100 t a.sh hs fuel _ _ hd hz;obtain⟨az,h',xC,vs,A',l',g',f',r',x'⟩:=L μ h A;obtain⟨m,ss⟩:=a;cases m with
 |true=>
  obtain⟨cs,rfl⟩:∃cs,v= .agg cs:=by
   unfold D3 at hm;unfold Value.okWide at hv;split at hm
   ·rename_i hu;simp only[hu]at hv;obtain⟨cs,rfl,_⟩:=hv;exact⟨cs,rfl⟩
   ·rename_i hu;simp only[hu]at hv;obtain⟨cs,rfl,_⟩:=hv;exact⟨cs,rfl⟩
   ·cases hm
  refine⟨az,h',.agg xC,.agg vs.toArray,A',l',g',⟨xC,rfl,f'⟩,VR.fg (by simpa using r'),ak.fg (by simpa[Value.cells]using x')⟩
 |false=>
  have hc:=Nu hs hm hv;rw[hc]at x';cases x' with
  |cons hx ht=>
   cases ht;obtain⟨tv,rfl⟩:∃tv,xC=[tv]:=by
    have:=r'.1
    match xC,this with
    |[tv],_=>exact⟨tv,rfl⟩
   exact⟨az,h',tv,_,A',l',g',f',r'.head,hx⟩
theorem xF {base':Nat} {r:Reach}:∀{ts:List TypeId} {D2:List sw} {vs:List Value} {ds:List (DataW H)} {ps:List MemPlace},xE P ts D2=true→DataW.TrodAll enc P W base (fun _=>true) held ts vs ds ps→
 (∀(j:Nat) t v,ts[j]? =some t→vs[j]? =some v→Value.okWide P W r base' t v)→(∀x∈DataW.weightsEach P ts ds,x≤reachBytes)→∀μ h,AR W μ h→
 ∃az h' xC LU,AR W az h'∧μ.le az∧Grown h h'∧Bf D2 xC∧cX 0 qR (· <h'.size) h' xC LU∧ao az LU vs
 |[],[],[],ds,ps,_,_,_,_,μ,h,A=>⟨μ,h,[],[],A,μ.le_refl,.refl h,rfl,.nil,.nil⟩
 |t::ts,a::D2,v::vs,d::ds,ps,hB,hT,hv,hz,μ,h,A=>by
  simp only[xE,Bool.and_eq_true]at hB;obtain⟨p,q,h1,h2,_⟩:=hT;rw[DataW.weightsEach]at hz;obtain⟨b6,k1,tv,v0,A1,l1,g1,f1,r1,x1⟩:=Ib hB.1 h1 (hv 0 t v rfl rfl) (fun x hx=>hz x (List.mem_append_left _ hx)) μ h A;obtain⟨od,k2,xC,LU,A2,l2,g2,f2,r2,x2⟩:=xF hB.2 h2 (fun j t v a b=>hv (j+1) t v (by simpa using a) (by simpa using b)) (fun x hx=>hz x (List.mem_append_right _ hx)) b6 k1 A1;exact⟨od,k2,tv::xC,v0::LU,A2,aS.le_trans l1 l2,g1.trans g2,⟨_,_,rfl,f1,f2⟩,.cons (A1.tH A2 g2 r1) r2,.cons (x1.mono l2) x2⟩
 |[],a::D2,_,_,_,hB,_,_,_,_,_,_=>by simp[xE]at hB
 |t::ts,[],_,_,_,hB,_,_,_,_,_,_=>by simp[xE]at hB
 |[],[],v::vs,_,_,_,hT,_,_,_,_,_=>by simp[DataW.TrodAll]at hT
 |t::ts,a::D2,[],_,_,_,hT,_,_,_,_,_=>by simp[DataW.TrodAll]at hT
 |t::ts,a::D2,v::vs,[],_,_,hT,_,_,_,_,_=>by simp[DataW.TrodAll]at hT
theorem AR.wf {μ:aS} {h:ab} (A:AR W μ h):∀b cs f cp aE,h.get b=some (.cells cs f cp aE)→f≤b:=fun b cs f cp aE hg=>by
 have hb:b<h.size:=by
  rcases Nat.lt_or_ge b h.size with h1|h1
  ·exact h1
  ·rw[A.high b h1]at hg;cases hg
 obtain⟨cs',h1⟩:=A.all b hb;rw[hg]at h1;cases h1;exact Nat.le_refl _
theorem AR.px {E:Env} {μ:aS} {h:ab} (A:AR W μ h) (hg:∀g,E.cd g=false):aM E h.size W.heap.size μ h W where
 dZ:=A.dZ
 high:=A.high
 obj:=fun b m hb=>by
  obtain⟨cs,c,e,fr,h1,h2,h3,h4,h5⟩:=A.obj b m hb;exact⟨_,_,h1,h2,.cells h3 h4 (fun hx=>absurd (A.dZ b m hb) om) fun _=>h5⟩
 own:=fun b m hb hx=>absurd (A.dZ b m hb) om
 alias:=fun b1 b2 m1 m2 h1 h2 _ _ hx=>by
  have:=A.dZ b1 m1 h1;have:=A.dZ b2 m2 h2;omega
 cW:=fun b m r hb hf=>by
  obtain⟨cs,c,e,fr,h1,_⟩:=A.obj b m hb;rw[bp h1 h1]at hf;cases hf;exact⟨Nat.le_succ _,Nat.le_refl _,m,hb⟩
 cd:=fun g h=>by rw[hg g]at h;cases h
 low:=Nat.le_refl _
 jx:=Nat.le_refl _
 wf:=A.wf
 root:=fun b m cs aE hb hg=>by
  obtain⟨cs',jy⟩:=A.all b (A.dZ b m hb);rw[jy,Option.some.injEq,dV.cells.injEq]at hg;omega
theorem AR.mo {h:ab}:MO (y5 h.size qR (· <h.size) [] 0 h fun _=>[]) qR (· <h.size) [] 0 h fun _=>[]:=
 ⟨fun m y hl=>(by cases hl),fun m y hl=>(by cases hl),fun m1 m2 y1 y2 x h1=>(by cases h1),fun m y x hl=>(by cases hl),fun m y x b hl=>(by cases hl)⟩
theorem AR.mem {μ:aS} {h:ab} (A:AR W μ h):Mem (y5 h.size qR (· <h.size) [] 0 h fun _=>[]) qR (· <h.size) [] 0 h where
 ex:=⟨_,AR.mo⟩
 names:=fun m l hl=>by cases hl
 frozen:=fun b hb=>by
  obtain⟨cs,hg⟩:=A.all b hb;rw[A.rd hg];rfl
 F0:=fun _ hb=>hb
 wf:=⟨A.high,A.wf⟩
 l9:=.refl _ _ _
 jx:=Nat.le_refl _
 yV:=fun b hb=>.inl hb
 wy:=⟨Nat.le_refl _,fun _ _ _ hl=>hl,fun _ _ _ hl=>hl⟩
end
end Go.M
end
