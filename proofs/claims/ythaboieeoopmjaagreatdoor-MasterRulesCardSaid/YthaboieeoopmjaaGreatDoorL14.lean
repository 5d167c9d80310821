/-
  Part 14 of the library that the proof leans on.
-/
import Derived.Test.YthaboieeoopmjaaGreatDoorL12
import Derived.Test.YthaboieeoopmjaaGreatDoorL9
namespace Go.M
open Go
abbrev pF:=List (Nat×List Value)
def Fy (P:Program) (l:pF) (qD:FuncId→List Value→ae→Option (Value×ae)):Env:={ew P qD with xc:=look l}
theorem WW (P:Program) (l:pF) (qD:FuncId→List Value→ae→Option (Value×ae)):bB P (Fy P l qD):=
 let h:=xG P qD
 ⟨h.desc,h.size,h.bytes,h.zero,h.sr,h.func⟩
def aaH (v v':Value):Prop:=(CE v=false∧v'=v)∨(CE v=true∧isIf v')
def yO (l:pF) (W:World):Prop:=∀g cs,look l g=some cs→∃c e fr,W.heap[g]? =some (.cells c e fr)∧cs.length≤c.size∧∀(i:Nat) v,cs[i]? =some v→∃v',c[i]? =some v'∧aaH v v'
def Bt (l:pF):Nat→ae
 |0=>qP
 |n+1=>(Bt l n).push (.cells (match look l n with|some cs=>cs|none=>[]) n (n+1) 0)
def muT (l:pF) (n:Nat) (W:World):bt:=fun g=>match look l g,W.heap[g]?,Nat.blt g n with
 |some _,some (.cells c _ _),true=>some ⟨g,0,c.size⟩
 |_,_,_=>none
def yP (l:pF) (n:Nat):Bool:=l.all fun p=>Nat.blt p.1 n&&p.2.all (fun v=>CD v||CE v)&&(match look l p.1 with|some cs=>kj cs p.2|none=>false)
def Pt (l:pF) (h:ae):Bool:=l.all fun p=>match h.rd p.1,look l p.1 with|some cs,some cs'=>kj cs cs'|_,_=>false
section
variable {P:Program} {l:pF} {n:Nat} {W:World}
theorem g4:∀n,(Bt l n).size=n
 |0=>rfl
 |n+1=>by rw[Bt,ae.size_push,g4 n]
theorem ng:∀n b,(Bt l n).get b=if b<n then some (.cells (match look l b with|some cs=>cs|none=>[]) b (b+1) 0)else none
 |0,b=>by simp;rfl
 |n+1,b=>by
  rw[Bt,ae.au,g4 n,ng n b];by_cases e:b=n
  ·subst e;simp
  ·rw[if_neg e];by_cases h:b<n
   ·rw[if_pos h,if_pos om]
   ·rw[if_neg h,if_neg om]
theorem tz {α:Type} {l:List (Nat×α)} {g:Nat} {x:α} (h:look l g=some x):(g,x)∈l:=by
 induction l with
 |nil=>simp[look]at h
 |cons p l ih=>
  unfold look at h;split at h
  ·rename_i hb;cases h;rw[beq_iff]at hb;subst hb;exact List.mem_cons_self
  ·exact List.mem_cons_of_mem _ (ih h)
theorem tA (hB:yP l n=true) {g:Nat} {cs:List Value} (h:look l g=some cs):g<n∧cs.all (fun v=>CD v||CE v)=true:=by
 have:=List.all_eq_true.1 hB _ (tz h);simp only[Bool.and_eq_true,a7]at this;exact⟨this.1.1,this.1.2⟩
theorem vO {v:Value} (h:CD v=true):az v=true:=by
 unfold CD at h;simp only[Bool.and_eq_true]at h;exact h.1
theorem arT (hB:yP l n=true) (hW:yO l W):AR W (muT l n W) (Bt l n):=by
 have key:∀{b m},muT l n W b=some m→∃cs c e fr,look l b=some cs∧W.heap[b]? =some (.cells c e fr)∧b<n∧m=⟨b,0,c.size⟩:=by
  intro b m h;unfold muT at h;split at h
  ·rename_i cs c e fr h1 h2 h3;cases h;exact⟨cs,c,e,fr,h1,h2,a7.1 h3,rfl⟩
  ·cases h
 refine⟨fun b hb=>?_,fun b hb=>?_,fun b m hb=>?_,fun b m hb=>?_⟩
 ·rw[g4]at hb;rw[ng,if_neg om]
 ·rw[g4]at hb;rw[ng,if_pos hb];exact⟨_,rfl⟩
 ·obtain⟨cs,c,e,fr,h1,h2,h3,rfl⟩:=key hb;rw[g4];exact h3
 ·obtain⟨cs,c,e,fr,h1,h2,h3,rfl⟩:=key hb;obtain⟨c',e',Nb,q1,q2,q3⟩:=hW b cs h1;rw[h2]at q1;cases q1;refine⟨cs,c,e,fr,by rw[ng,if_pos h3,h1],h2,rfl,by simpa using q2,fun i v hv=>?_⟩;obtain⟨v',k1,k2⟩:=q3 i v hv;refine⟨v',by simpa using k1,?_⟩;have ht:=List.all_eq_true.1 (tA hB h1).2 v (List.mem_of_getElem? hv);simp only[Bool.or_eq_true]at ht;rcases k2 with⟨ho,rfl⟩|⟨ho,hi⟩
  ·rcases ht with ht|ht
   ·exact .lit (vO ht)
   ·rw[ho]at ht;cases ht
  ·cases v<;>simp[CE]at ho;rename_i r;cases r with
   |none=>simp at ho
   |some n=>exact .Ca hi
theorem Pu (hB:yP l n=true) (hW:yO l W) {E:Env} (hE:E.xc=look l) (g:Nat) (hg:E.de g=true):∃m,muT l n W g=some m∧m.r=g∧m.s=0:=by
 unfold Env.de at hg;rw[hE,Option.isSome_iff_exists]at hg;obtain⟨cs,h1⟩:=hg;obtain⟨c,e,fr,q1,q2,q3⟩:=hW g cs h1;refine⟨⟨g,0,c.size⟩,?_,rfl,rfl⟩;unfold muT;rw[h1,q1,a7.2 (tA hB h1).1]
theorem Fz {E:Env} (hE:E.xc=look l) {base B:Nat} {μ:bt} {h:ae} {w:World} (H:bq E base B μ h w) (hB:yP l n=true) (ht:Pt l h=true):yO l w:=by
 intro g cs hg;obtain⟨m,q1,q2,q3⟩:=H.de g (by unfold Env.de;rw[hE,hg];rfl);have:=List.all_eq_true.1 ht _ (tz hg);simp only[hg]at this;split at this
 ·rename_i uc cs2 hr e;cases e;have ec:=sN this;subst ec;obtain⟨c,e,fr,k1,k2,k3,_,k5⟩:=H.read q1 hr;rw[q2]at k1;rw[q3]at k3 k5;refine⟨c,e,fr,k1,om,fun i v hv=>?_⟩;obtain⟨v',p1,p2⟩:=k5 i v hv;refine⟨v',by simpa using p1,?_⟩;have ht:=List.all_eq_true.1 (tA hB hg).2 v (List.mem_of_getElem? hv);simp only[Bool.or_eq_true]at ht;rcases ht with ht|ht
  ·have hp:=vO ht;refine .inl ⟨?_,?_⟩
   ·cases v<;>simp[CE];rename_i r;cases r<;>simp[az]at hp ⊢
   ·cases p2 with
    |lit h=>rfl
    |_=>simp[az]at hp
  ·refine .inr ⟨ht,?_⟩;cases v<;>simp[CE]at ht;rename_i r;cases r with
   |none=>simp at ht
   |some n=>
    cases p2 with
    |lit h=>simp[az]at h
    |Ca h=>exact h
 ·cases this
def WX (P:Program) (l:pF) (g:FuncId):Prop:=∀(W:World) (F:Fence) (n:Nat),yO l W→gE F→CallsIn F n P g #[] W fun e W'=>e= .returned (.bool true)∧Go.RowKit.Below W.heap.size W W'
noncomputable def ab3 (P:Program) (l:pF) (fs bs ps:List Nat) (n:Nat):FuncId→List Value→ae→Option (Value×ae):=fun g args h=>
 match fs.contains g with
 |true=>Fk (Fy P l oy) n g args h
 |false=>match bs.contains g with
  |true=>De (Fy P l oy) n g args h
  |false=>match ps.contains g with
   |true=>Df (Fy P l oy) n g args h
   |false=>none
theorem AR.aaJ {E:Env} {js μ:bt} {h:ae} (A:AR W μ h) (hle:js.le μ) (hg:∀g,E.de g=true→∃m,js g=some m∧m.r=g∧m.s=0):bq E h.size W.heap.size μ h W:=
 let H:=AR.rB (E:=ew default oy) A (fun _=>rfl)
 ⟨H.gh,H.high,H.obj,H.own,H.alias,H.dJ,fun g h=>let⟨m,q1,q2⟩:=hg g h;⟨m,hle _ _ q1,q2⟩,H.low,H.lK,H.wf,H.root⟩
def Pv (l:pF) (aw:List Nat) (rest:FuncId→List Value→ae→Option (Value×ae)):FuncId→List Value→ae→Option (Value×ae):=fun g args h=>
 match iN g aw,args,Pt l h with
 |true,[],true=>some (.bool true,h)
 |_,_,_=>rest g args h
theorem To {aw:List Nat} {rest:FuncId→List Value→ae→Option (Value×ae)} (hB:yP l n=true) (ha:∀g∈aw,WX P l g) (hr:∀base B,gL P (ew P rest) base B) (base B:Nat):gL P (Fy P l (Pv l aw rest)) base B:=by
 intro μ h w g args args' v h' hc hv H F k hF;have kX:Pv l aw rest g args h=some (v,h'):=hc;unfold Pv at kX;split at kX
 ·rename_i h1 h2;cases kX;have:args'= #[]:=by
   have:=hv.length;simpa using this.symm
  subst this;refine(ha g (kZ h1) w F k (Fz (E:=Fy P l (Pv l aw rest)) rfl H hB h2) hF).mono ?_;rintro e W' ⟨rfl,hb⟩;exact⟨_,μ,rfl,.lit rfl,⟨H.ext hb.size fun r hr=>hb.block r hr,⟨hb.tape,hb.os,hb.output,hb.size,fun r hr _=>hb.block r hr⟩,μ.le_refl,fun b m h0 h1=>(by rw[h0]at h1;cases h1),fun _ _ _=>rfl,Nat.le_refl _⟩⟩
 ·have H2:bq (ew P rest) base B μ h w:=⟨H.gh,H.high,H.obj,H.own,H.alias,H.dJ,fun g hg=>by simp[Env.de,ew]at hg,H.low,H.lK,H.wf,H.root⟩
  exact(hr base B μ h w g _ args' v h' kX hv H2 F k hF).mono fun e w' ⟨v',a6,h1,h2,h3⟩=>
   ⟨v',a6,h1,h2,⟨h3.rel.gh,h3.rel.high,h3.rel.obj,h3.rel.own,h3.rel.alias,h3.rel.dJ,fun g hg=>let⟨m,q1,q2⟩:=H.de g hg;⟨m,h3.le _ _ q1,q2⟩,h3.rel.low,h3.rel.lK,h3.rel.wf,h3.rel.root⟩,h3.grow,h3.le,h3.new,h3.Hf,h3.fO⟩
end
section
open Go.ChangeShapes Go.WideShapes
variable {H:Type} {enc:TypeId×Value→H} {P:Program} {W:World} {base:Nat} {held:Bool}
theorem L1 {l:pF} {n:Nat} {E:Env} {g:FuncId} {J3:List vI} {ts:List TypeId} {args:Array Value} {ds:List (DataW H)} {ps:List MemPlace} {base':Nat} {r:Reach} (hE:bB P E) (hO:∀base B,gL P E base B) (hm:P.follows .mixedOrders=true)
 (hT:E.xc=look l) (hBT:yP l n=true) (hWT:yO l W)
 (hB:Bf P ts J3=true) (hD:DataW.TrodAll enc P W base (fun _=>true) held ts args.toList ds ps) (hv:∀(j:Nat) t v,ts[j]? =some t→args[j]? =some v→Value.okWide P W r base' t v)
 (hc:∀Be,Fi J3 Be→VC E g 0 Be [] fun r _ _=>r= .s (.bool true)):Calls P g args W fun e W'=>e= .returned (.bool true)∧Go.RowKit.Below W.heap.size W W':=by
 obtain⟨μ,h,Be,WK,A,hle,vo,f,r,x⟩:=Bg hB hD (fun j t v a b=>hv j t v a (by simpa using b)) _ _ (arT hBT hWT);have hN:m3 E (· <h.size) h:=fun g cs hg=>by
  rw[hT]at hg;obtain⟨h1,h2⟩:=tA hBT hg;have hs:=vo.1;rw[g4]at hs;refine⟨om,A.rd (cs:=cs) ?_,trivial⟩;rw[vo.2 g (by rw[g4];exact h1),ng,if_pos h1,hg]
 obtain⟨k,v,h',ρ',F',r',o',c',h1,rfl,h3,h4⟩:=hc Be f h.size wN _ h _ WK hN A.mem (AR.mo) r;obtain⟨rfl,_⟩:=h4.dn;have:=xH hE (hO h.size W.heap.size) hm k μ h W g WK args _ h' h1 x (A.aaJ hle (Pu hBT hWT hT)) Fence.wide 0 gE.wide;refine(callsIn_wide.1 (this.mono ?_));rintro e W' ⟨v',a6,rfl,hv,S⟩;have e:=hv.ax rfl;subst e;exact⟨rfl,S.grow.os,S.grow.tape,S.grow.output,S.grow.size,fun k hk=>S.grow.bw k hk fun b m hb _=>A.gh b m hb⟩
end
def l8 (o:Oper):Bool:=match o.op with
 | .move _| .assign _| .pick _ _ _| .build _ _| .nilCheck _| .binOp _ _ _ _ _| .unOp _ _ _| .makeInterface _ _| .makeFunc _ _ _| .slice _ _ _ _ _| .fieldAddr _ _ _| .field _ _ _| .indexAddr _ _ _| .index _ _ _| .lookup _ _ _ _| .extract _ _| .load _ _=>true
 | .call c=>(match c.callee with
  | .builtin .len=>true
  |_=>false)
 |_=>false
def dw:Code→Bool
 | .skip| .exit _| .ret=>true
 | .region _ ops _=>ops.toList.all l8
 | .seq a b=>dw a&&dw b
 | .cond _ a b=>dw a&&dw b
 | .block _ b=>dw b
 | .loop b=>dw b
 |_=>false
section
variable {E:Env} {base:Nat}
theorem vP {cf:eR} {rf:dP} {o:Oper} {f:AF} {h:ae} {r:Uz} (hs:l8 o=true) (hr:dW E base cf rf o f h=some r):r.h=h:=by
 have h1:br E f o=none:=by
  obtain⟨dst,op,ty,pos,after,guard⟩:=o;cases op<;>first|rfl |(simp[l8]at hs;done)
 have h2:dj E base f o h=none:=by
  obtain⟨dst,op,ty,pos,after,guard⟩:=o;cases op with
  |call c=>
   obtain⟨callee,args,ts⟩:=c;cases callee with
   |builtin b=>
    cases b<;>first|(simp[l8]at hs;done)|skip
    simp only[dj];cases GX E f args.toList with
    |none=>rfl
    |some vs=>simp[sx]
   |_=>simp[l8]at hs
  |_=>first|rfl |(simp[l8]at hs;done)
 unfold dW at hr;split at hr
 ·cases hr;rfl
 ·split at hr
  ·rename_i q _;simp only[Option.bind_eq_some_iff,Option.some.injEq]at hr;obtain⟨v,_,rfl⟩:=hr;rfl
  ·rw[h1,h2]at hr;cases hr
theorem sa {cf:eR} {rf:dP} {ops:List Oper}:∀{rest:List Oper} {f f':AF} {h h':ae},rest.all l8=true→rz E base cf rf ops rest f h=some (f',h')→h'=h
 |[],f,f',h,h',_,hr=>by simp[rz]at hr;exact hr.2.symm
 |o::rest,f,f',h,h',hs,hr=>by
  simp only[List.all_cons,Bool.and_eq_true]at hs;unfold rz at hr;split at hr
  ·simp only[Option.bind_eq_some_iff]at hr;obtain⟨r,h1,h2⟩:=hr;rw[sa hs.2 h2,vP hs.1 h1]
  ·exact sa hs.2 hr
theorem pG {cf:eR} {rf:dP} {ops:List Oper}:∀{rest:List Oper} {f f':AF} {h h':ae} {l:List dU},rest.all l8=true→jG E base cf rf ops rest f h=some (f',h',l)→h'=h
 |[],f,f',h,h',l,_,hr=>by simp[jG]at hr;exact hr.2.1.symm
 |o::rest,f,f',h,h',l,hs,hr=>by
  simp only[List.all_cons,Bool.and_eq_true]at hs;unfold jG at hr;split at hr
  ·simp only[Option.bind_eq_some_iff,Option.some.injEq,Prod.mk.injEq]at hr;obtain⟨r,h1,⟨f1,wH,l1⟩,h2,rfl,rfl,rfl⟩:=hr;rw[pG hs.2 h2,vP hs.1 h1]
  ·simp only[Option.bind_eq_some_iff,Option.some.injEq,Prod.mk.injEq]at hr;obtain⟨⟨f1,wH,l1⟩,h2,rfl,rfl,rfl⟩:=hr;exact pG hs.2 h2
theorem cX:∀(n:Nat) {c:Code} {f f':AF} {h h':ae} {ex:Ex},dw c=true→aV E base n c f h=some (ex,f',h')→h'=h
 |0,c,f,f',h,h',ex,_,hr=>by simp[aV]at hr
 |n+1,c,f,f',h,h',ex,hs,hr=>by
  cases c with
  |skip=>simp[aV]at hr;exact hr.2.2.symm
  |exit id=>simp[aV]at hr;exact hr.2.2.symm
  |ret=>simp[aV]at hr;exact hr.2.2.symm
  |region id ops draw=>
   simp only[aV,kl]at hr;simp only[dw]at hs;cases draw with
   |false=>
    simp only[Option.bind_eq_some_iff,Option.some.injEq,Prod.mk.injEq]at hr;obtain⟨⟨f1,h1⟩,h2,rfl,rfl,rfl⟩:=hr;exact sa hs h2
   |true=>
    simp only[aj,Option.bind_eq_some_iff,Option.some.injEq,Prod.mk.injEq]at hr;obtain⟨_,⟨f1,h1,l1⟩,h2,_,rfl,rfl,rfl⟩:=hr;exact pG hs h2
  |seq a b=>
   simp only[dw,Bool.and_eq_true]at hs;simp only[aV]at hr;split at hr
   ·rename_i f1 h1 hb;rw[cX n hs.2 hr,cX n hs.1 hb]
   ·exact cX n hs.1 hr
  |cond q a b=>
   simp only[dw,Bool.and_eq_true]at hs;simp only[aV,Option.bind_eq_some_iff]at hr;obtain⟨v,_,w,_,hr⟩:=hr;cases w with
   |true=>exact cX n hs.1 hr
   |false=>exact cX n hs.2 hr
  |block id b=>
   simp only[dw]at hs;simp only[aV]at hr;split at hr
   ·rename_i ow f1 h1 hb;have:=cX n hs hb;rw[bT]at hr;split at hr<;>(cases hr;exact this)
   ·exact cX n hs hr
  |loop b=>
   simp only[dw]at hs;simp only[aV]at hr;split at hr
   ·rename_i f1 h1 hb;rw[cX n (c:=.loop b) hs hr,cX n hs hb]
   ·exact cX n hs hr
  |_=>simp[dw]at hs
theorem Pw {g:FuncId} {fn:Func} {code:Code} (hf:E.func g=some fn) (ho:∀b a,E.qD b g a=fun _=>none) (hb:fn.body=some code) (hc:dw code=true):x7 E g:=by
 intro base n args h v h' hr;unfold g9 fE at hr;simp only[hf,Option.bind_some,ho,hb,aj]at hr;obtain⟨_,hr⟩:=hr;split at hr
 ·rename_i f1 h1 he;simp only[Option.bind_eq_some_iff,Option.some.injEq,Prod.mk.injEq]at hr;obtain⟨vs,_,rfl,rfl⟩:=hr;exact cX n hc he
 ·rename_i f1 h1 he;simp only[Option.bind_eq_some_iff,Option.some.injEq,Prod.mk.injEq]at hr;obtain⟨vs,_,rfl,rfl⟩:=hr;exact cX n hc he
 ·cases hr
end
theorem VC.ld {E:Env} {g:FuncId} {c m0:Nat} {args:List TV} {o:Ob} {cs:List TV} {R:TV→Ob→Nat→Prop} (hl:look o m0=some (.cells cs))
 (hw:iU false (VC E) g args ((dY cs c).2++eX o m0 (.cells (dY cs c).1)) (c+(dY cs c).2.length) (fun r o' c' _=>R r o' c')):VC E g c args o R:=by
 intro base ρ F h S b7 hT hM hO hA;have wO:=hO.b9 m0 _ hl;generalize hSm:S m0=Sm at wO;cases wO with
 |cells hb hg ht hc=>
  rename_i S1 b ba cs';obtain⟨Ss,ls,b1,b2,b3⟩:=hc.opened c;have uk:ls.length=(dY cs c).2.length:=b2.l2;have EY:(S m0).Perm ([(b,true)]++Ss.flatten):=by rw[hSm,←b1];exact List.Perm.refl _
  obtain⟨M1,hk⟩:=hM.opens hO (y1:=.cells (dY cs c).1) hl b2 EY (fun hm=>.cells (by rw[fx _ _ (hM.lt hl)];exact hb) hg ht (cU.kS (b3 _ _ hm om (fun i q hq=>by rw[sZ];exact hq))));obtain⟨sh,ids,U,JJ,o0,R0,hvc,⟨iT,hO0,hi⟩,hK⟩:=hw;simp only[Bool.and_eq_true]at hi;obtain⟨hi,hU⟩:=hi;obtain⟨F1,Sh⟩:=jQ M1 sh;have H1:=Sh.mem;obtain⟨S2,K1⟩:=H1.ex;obtain⟨S3,Ns,D⟩:=hO0.told H1 K1 hi hU;obtain⟨hand,OP⟩:=H1.hand K1 D;have Wt:=EJ (zf:=HV o0) H1 _ _ _ iT ((hA.qV hk).qV Sh.bw);obtain⟨n0,v,h',ρ',F',r,o',c',gY,hR,MC,hr⟩:=hvc base _ F1 h S3 b7 (fun i cs hi=>let⟨b,q⟩:=hT i cs hi;⟨Sh.FF _ b,q⟩) hand OP Wt
  obtain⟨MM,k1,k2,k3⟩:=H1.merge K1 hi D MC;exact⟨n0,v,h',_,F',_,_,_,gY,hK r o' c' hR,MM,k2 _ _ hr⟩
theorem VC.told {E:Env} {g:FuncId} {c:Nat} {args:List TV} {o:Ob} {R R2:TV→Ob→Nat→Prop} (H:VC E g c args o R)
 (hR:∀r o' c',R r o' c'→∃(sh:List Nat) (ids:List (Option Nat)) (U:List Nat) (r2:TV) (o2:Ob),(ZH ids (cH sh o') r r2∧JH ids (cH sh o') U o2∧(iA c' ids&&pd c 0 ids&&mC ids U)=true)∧R2 r2 o2 ids.length):VC E g c args o R2:=by
 intro base ρ F h S b7 hT hM hO hA;obtain⟨n,v,h',ρ',F',r,o',c',gY,hr,M',hv⟩:=H base ρ F h S b7 hT hM hO hA;obtain⟨sh,ids,U,r2,o2,⟨hle,hO2,hi⟩,hR2⟩:=hR r o' c' hr;simp only[Bool.and_eq_true]at hi;obtain⟨F1,S1⟩:=jQ M' sh;have M2:=S1.mem.le hi.1.1 hi.1.2 hi.2 hO2;exact⟨n,v,h',_,F1,r2,o2,ids.length,gY,hR2,M2,qe S1.mem _ _ _ hle (S1.bw _ _ hv)⟩
end Go.M
