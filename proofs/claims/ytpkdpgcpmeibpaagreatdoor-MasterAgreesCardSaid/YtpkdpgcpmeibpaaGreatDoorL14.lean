/-
  Part 14 of the library that the proof leans on.
-/
import Derived.Test.YtpkdpgcpmeibpaaGreatDoorL12
import Derived.Test.YtpkdpgcpmeibpaaGreatDoorL9
namespace Go.M
open Go
abbrev qx:=List (Nat×List Value)
def Gl (P:Program) (l:qx) (rF:FuncId→List Value→ab→Option (Value×ab)):Env:={eL P rF with x6:=look l}
theorem Wv (P:Program) (l:qx) (rF:FuncId→List Value→ab→Option (Value×ab)):bF P (Gl P l rF):=
 let h:=yx P rF
 ⟨h.desc,h.size,h.bytes,h.zero,h.tu,h.func⟩
def Z8 (v v':Value):Prop:=(De v=false∧v'=v)∨(De v=true∧isIf v')
def zG (l:qx) (W:World):Prop:=∀g cs,look l g=some cs→∃c e fr,W.heap[g]? =some (.cells c e fr)∧cs.length≤c.size∧∀(i:Nat) v,cs[i]? =some v→∃v',c[i]? =some v'∧Z8 v v'
def Cb (l:qx):Nat→ab
 |0=>rP
 |n+1=>(Cb l n).push (.cells (match look l n with|some cs=>cs|none=>[]) n (n+1) 0)
def Z9 (l:qx) (n:Nat) (W:World):bx:=fun g=>match look l g,W.heap[g]?,Nat.blt g n with
 |some _,some (.cells c _ _),true=>some ⟨g,0,c.size⟩
 |_,_,_=>none
def zH (l:qx) (n:Nat):Bool:=l.all fun p=>Nat.blt p.1 n&&p.2.all (fun v=>Dd v||De v)&&(match look l p.1 with|some cs=>kY cs p.2|none=>false)
def Pv (l:qx) (h:ab):Bool:=l.all fun p=>match h.rd p.1,look l p.1 with|some cs,some cs'=>kY cs cs'|_,_=>false
section
variable {P:Program} {l:qx} {n:Nat} {W:World}
theorem iG:∀n,(Cb l n).size=n
 |0=>rfl
 |n+1=>by rw[Cb,ab.size_push,iG n]
theorem oe:∀n b,(Cb l n).get b=if b<n then some (.cells (match look l b with|some cs=>cs|none=>[]) b (b+1) 0)else none
 |0,b=>by simp;rfl
 |n+1,b=>by
  rw[Cb,ab.au,iG n,oe n b];by_cases e:b=n
  ·subst e;simp
  ·rw[if_neg e];by_cases h:b<n
   ·rw[if_pos h,if_pos om]
   ·rw[if_neg h,if_neg om]
theorem ur {α:Type} {l:List (Nat×α)} {g:Nat} {x:α} (h:look l g=some x):(g,x)∈l:=by
 induction l with
 |nil=>simp[look]at h
 |cons p l ih=>
  unfold look at h;split at h
  ·rename_i hb;cases h;rw[beq_iff]at hb;subst hb;exact List.mem_cons_self
  ·exact List.mem_cons_of_mem _ (ih h)
theorem uu (hB:zH l n=true) {g:Nat} {cs:List Value} (h:look l g=some cs):g<n∧cs.all (fun v=>Dd v||De v)=true:=by
 have:=List.all_eq_true.1 hB _ (ur h);simp only[Bool.and_eq_true,ba]at this;exact⟨this.1.1,this.1.2⟩
theorem wS {v:Value} (h:Dd v=true):aB v=true:=by
 unfold Dd at h;simp only[Bool.and_eq_true]at h;exact h.1
theorem arT (hB:zH l n=true) (hW:zG l W):AR W (Z9 l n W) (Cb l n):=by
 have key:∀{b m},Z9 l n W b=some m→∃cs c e fr,look l b=some cs∧W.heap[b]? =some (.cells c e fr)∧b<n∧m=⟨b,0,c.size⟩:=by
  intro b m h;unfold Z9 at h;split at h
  ·rename_i cs c e fr h1 h2 h3;cases h;exact⟨cs,c,e,fr,h1,h2,ba.1 h3,rfl⟩
  ·cases h
 refine⟨fun b hb=>?_,fun b hb=>?_,fun b m hb=>?_,fun b m hb=>?_⟩
 ·rw[iG]at hb;rw[oe,if_neg om]
 ·rw[iG]at hb;rw[oe,if_pos hb];exact⟨_,rfl⟩
 ·obtain⟨cs,c,e,fr,h1,h2,h3,rfl⟩:=key hb;rw[iG];exact h3
 ·obtain⟨cs,c,e,fr,h1,h2,h3,rfl⟩:=key hb;obtain⟨c',e',Nd,q1,q2,q3⟩:=hW b cs h1;rw[h2]at q1;cases q1;refine⟨cs,c,e,fr,by rw[oe,if_pos h3,h1],h2,rfl,by simpa using q2,fun i v hv=>?_⟩;obtain⟨v',k1,k2⟩:=q3 i v hv;refine⟨v',by simpa using k1,?_⟩;have ht:=List.all_eq_true.1 (uu hB h1).2 v (List.mem_of_getElem? hv);simp only[Bool.or_eq_true]at ht;rcases k2 with⟨ho,rfl⟩|⟨ho,hi⟩
  ·rcases ht with ht|ht
   ·exact .lit (wS ht)
   ·rw[ho]at ht;cases ht
  ·cases v<;>simp[De]at ho;rename_i r;cases r with
   |none=>simp at ho
   |some n=>exact .CM hi
theorem Pw (hB:zH l n=true) (hW:zG l W) {E:Env} (hE:E.x6=look l) (g:Nat) (hg:E.dp g=true):∃m,Z9 l n W g=some m∧m.r=g∧m.s=0:=by
 unfold Env.dp at hg;rw[hE,Option.isSome_iff_exists]at hg;obtain⟨cs,h1⟩:=hg;obtain⟨c,e,fr,q1,q2,q3⟩:=hW g cs h1;refine⟨⟨g,0,c.size⟩,?_,rfl,rfl⟩;unfold Z9;rw[h1,q1,ba.2 (uu hB h1).1]
theorem Gm {E:Env} (hE:E.x6=look l) {base B:Nat} {μ:bx} {h:ab} {w:World} (H:bt E base B μ h w) (hB:zH l n=true) (ht:Pv l h=true):zG l w:=by
 intro g cs hg;obtain⟨m,q1,q2,q3⟩:=H.dp g (by unfold Env.dp;rw[hE,hg];rfl);have:=List.all_eq_true.1 ht _ (ur hg);simp only[hg]at this;split at this
 ·rename_i uY cs2 hr e;cases e;have ec:=tP this;subst ec;obtain⟨c,e,fr,k1,k2,k3,_,k5⟩:=H.read q1 hr;rw[q2]at k1;rw[q3]at k3 k5;refine⟨c,e,fr,k1,om,fun i v hv=>?_⟩;obtain⟨v',p1,p2⟩:=k5 i v hv;refine⟨v',by simpa using p1,?_⟩;have ht:=List.all_eq_true.1 (uu hB hg).2 v (List.mem_of_getElem? hv);simp only[Bool.or_eq_true]at ht;rcases ht with ht|ht
  ·have hp:=wS ht;refine .inl ⟨?_,?_⟩
   ·cases v<;>simp[De];rename_i r;cases r<;>simp[aB]at hp ⊢
   ·cases p2 with
    |lit h=>rfl
    |_=>simp[aB]at hp
  ·refine .inr ⟨ht,?_⟩;cases v<;>simp[De]at ht;rename_i r;cases r with
   |none=>simp at ht
   |some n=>
    cases p2 with
    |lit h=>simp[aB]at h
    |CM h=>exact h
 ·cases this
def Ww (P:Program) (l:qx) (g:FuncId):Prop:=∀(W:World) (F:Fence) (n:Nat),zG l W→hZ F→CallsIn F n P g #[] W fun e W'=>e= .returned (.bool true)∧Go.RowKit.Below W.heap.size W W'
noncomputable def abA (P:Program) (l:qx) (fs bs ps:List Nat) (n:Nat):FuncId→List Value→ab→Option (Value×ab):=fun g args h=>
 match fs.contains g with
 |true=>Ga (Gl P l po) n g args h
 |false=>match bs.contains g with
  |true=>DN (Gl P l po) n g args h
  |false=>match ps.contains g with
   |true=>DO (Gl P l po) n g args h
   |false=>none
theorem AR.aaa {E:Env} {j7 μ:bx} {h:ab} (A:AR W μ h) (hle:j7.le μ) (hg:∀g,E.dp g=true→∃m,j7 g=some m∧m.r=g∧m.s=0):bt E h.size W.heap.size μ h W:=
 let H:=AR.sk (E:=eL default po) A (fun _=>rfl)
 ⟨H.gS,H.high,H.obj,H.own,H.alias,H.dU,fun g h=>let⟨m,q1,q2⟩:=hg g h;⟨m,hle _ _ q1,q2⟩,H.low,H.mA,H.wf,H.root⟩
def Px (l:qx) (aw:List Nat) (rest:FuncId→List Value→ab→Option (Value×ab)):FuncId→List Value→ab→Option (Value×ab):=fun g args h=>
 match jx g aw,args,Pv l h with
 |true,[],true=>some (.bool true,h)
 |_,_,_=>rest g args h
theorem SV {aw:List Nat} {rest:FuncId→List Value→ab→Option (Value×ab)} (hB:zH l n=true) (ha:∀g∈aw,Ww P l g) (hr:∀base B,ik P (eL P rest) base B) (base B:Nat):ik P (Gl P l (Px l aw rest)) base B:=by
 intro μ h w g args args' v h' hc hv H F k hF;have lT:Px l aw rest g args h=some (v,h'):=hc;unfold Px at lT;split at lT
 ·rename_i h1 h2;cases lT;have:args'= #[]:=by
   have:=hv.length;simpa using this.symm
  subst this;refine(ha g (lV h1) w F k (Gm (E:=Gl P l (Px l aw rest)) rfl H hB h2) hF).mono ?_;rintro e W' ⟨rfl,hb⟩;exact⟨_,μ,rfl,.lit rfl,⟨H.ext hb.size fun r hr=>hb.block r hr,⟨hb.tape,hb.os,hb.output,hb.size,fun r hr _=>hb.block r hr⟩,μ.le_refl,fun b m h0 h1=>(by rw[h0]at h1;cases h1),fun _ _ _=>rfl,Nat.le_refl _⟩⟩
 ·have H2:bt (eL P rest) base B μ h w:=⟨H.gS,H.high,H.obj,H.own,H.alias,H.dU,fun g hg=>by simp[Env.dp,eL]at hg,H.low,H.mA,H.wf,H.root⟩
  exact(hr base B μ h w g _ args' v h' lT hv H2 F k hF).mono fun e w' ⟨v',a7,h1,h2,h3⟩=>
   ⟨v',a7,h1,h2,⟨h3.rel.gS,h3.rel.high,h3.rel.obj,h3.rel.own,h3.rel.alias,h3.rel.dU,fun g hg=>let⟨m,q1,q2⟩:=H.dp g hg;⟨m,h3.le _ _ q1,q2⟩,h3.rel.low,h3.rel.mA,h3.rel.wf,h3.rel.root⟩,h3.grow,h3.le,h3.new,h3.HJ,h3.gB⟩
end
section
open Go.ChangeShapes Go.WideShapes
variable {H:Type} {enc:TypeId×Value→H} {P:Program} {W:World} {base:Nat} {held:Bool}
theorem Mb {l:qx} {n:Nat} {E:Env} {g:FuncId} {Kl:List wM} {ts:List TypeId} {args:Array Value} {ds:List (DataW H)} {ps:List MemPlace} {base':Nat} {r:Reach} (hE:bF P E) (hO:∀base B,ik P E base B) (hm:P.follows .mixedOrders=true)
 (hT:E.x6=look l) (hBT:zH l n=true) (hWT:zG l W)
 (hB:BX P ts Kl=true) (hD:DataW.TrodAll enc P W base (fun _=>true) held ts args.toList ds ps) (hv:∀(j:Nat) t v,ts[j]? =some t→args[j]? =some v→Value.okWide P W r base' t v)
 (hc:∀BW,F8 Kl BW→VC E g 0 BW [] fun r _ _=>r= .s (.bool true)):Calls P g args W fun e W'=>e= .returned (.bool true)∧Go.RowKit.Below W.heap.size W W':=by
 obtain⟨μ,h,BW,Wk,A,hle,wq,f,r,x⟩:=BY hB hD (fun j t v a b=>hv j t v a (by simpa using b)) _ _ (arT hBT hWT);have hN:nU E (· <h.size) h:=fun g cs hg=>by
  rw[hT]at hg;obtain⟨h1,h2⟩:=uu hBT hg;have hs:=wq.1;rw[iG]at hs;refine⟨om,A.rd (cs:=cs) ?_,trivial⟩;rw[wq.2 g (by rw[iG];exact h1),oe,if_pos h1,hg]
 obtain⟨k,v,h',ρ',F',r',o',c',h1,rfl,h3,h4⟩:=hc BW f h.size xM _ h _ Wk hN A.mem (AR.mo) r;obtain⟨rfl,_⟩:=h4.dA;have:=yz hE (hO h.size W.heap.size) hm k μ h W g Wk args _ h' h1 x (A.aaa hle (Pw hBT hWT hT)) Fence.wide 0 hZ.wide;refine(callsIn_wide.1 (this.mono ?_));rintro e W' ⟨v',a7,rfl,hv,S⟩;have e:=hv.ay rfl;subst e;exact⟨rfl,S.grow.os,S.grow.tape,S.grow.output,S.grow.size,fun k hk=>S.grow.bA k hk fun b m hb _=>A.gS b m hb⟩
end
def mZ (o:Oper):Bool:=match o.op with
 | .move _| .assign _| .pick _ _ _| .build _ _| .nilCheck _| .binOp _ _ _ _ _| .unOp _ _ _| .makeInterface _ _| .makeFunc _ _ _| .slice _ _ _ _ _| .fieldAddr _ _ _| .field _ _ _| .indexAddr _ _ _| .index _ _ _| .lookup _ _ _ _| .extract _ _| .load _ _=>true
 | .call c=>(match c.callee with
  | .builtin .len=>true
  |_=>false)
 |_=>false
def dH:Code→Bool
 | .skip| .exit _| .ret=>true
 | .region _ ops _=>ops.toList.all mZ
 | .seq a b=>dH a&&dH b
 | .cond _ a b=>dH a&&dH b
 | .block _ b=>dH b
 | .loop b=>dH b
 |_=>false
section
variable {E:Env} {base:Nat}
theorem wT {cf:fg} {rf:eg} {o:Oper} {f:AF} {h:ab} {r:Ub} (hs:mZ o=true) (hr:eF E base cf rf o f h=some r):r.h=h:=by
 have h1:bw E f o=none:=by
  obtain⟨dst,op,ty,pos,after,guard⟩:=o;cases op<;>first|rfl |(simp[mZ]at hs;done)
 have h2:dx E base f o h=none:=by
  obtain⟨dst,op,ty,pos,after,guard⟩:=o;cases op with
  |call c=>
   obtain⟨callee,args,ts⟩:=c;cases callee with
   |builtin b=>
    cases b<;>first|(simp[mZ]at hs;done)|skip
    simp only[dx];cases Hs E f args.toList with
    |none=>rfl
    |some vs=>simp[tA]
   |_=>simp[mZ]at hs
  |_=>first|rfl |(simp[mZ]at hs;done)
 unfold eF at hr;split at hr
 ·cases hr;rfl
 ·split at hr
  ·rename_i q _;simp only[Option.bind_eq_some_iff,Option.some.injEq]at hr;obtain⟨v,_,rfl⟩:=hr;rfl
  ·rw[h1,h2]at hr;cases hr
theorem sQ {cf:fg} {rf:eg} {ops:List Oper}:∀{rest:List Oper} {f f':AF} {h h':ab},rest.all mZ=true→si E base cf rf ops rest f h=some (f',h')→h'=h
 |[],f,f',h,h',_,hr=>by simp[si]at hr;exact hr.2.symm
 |o::rest,f,f',h,h',hs,hr=>by
  simp only[List.all_cons,Bool.and_eq_true]at hs;unfold si at hr;split at hr
  ·simp only[Option.bind_eq_some_iff]at hr;obtain⟨r,h1,h2⟩:=hr;rw[sQ hs.2 h2,wT hs.1 h1]
  ·exact sQ hs.2 hr
theorem qy {cf:fg} {rf:eg} {ops:List Oper}:∀{rest:List Oper} {f f':AF} {h h':ab} {l:List eD},rest.all mZ=true→kj E base cf rf ops rest f h=some (f',h',l)→h'=h
 |[],f,f',h,h',l,_,hr=>by simp[kj]at hr;exact hr.2.1.symm
 |o::rest,f,f',h,h',l,hs,hr=>by
  simp only[List.all_cons,Bool.and_eq_true]at hs;unfold kj at hr;split at hr
  ·simp only[Option.bind_eq_some_iff,Option.some.injEq,Prod.mk.injEq]at hr;obtain⟨r,h1,⟨f1,uX,l1⟩,h2,rfl,rfl,rfl⟩:=hr;rw[qy hs.2 h2,wT hs.1 h1]
  ·simp only[Option.bind_eq_some_iff,Option.some.injEq,Prod.mk.injEq]at hr;obtain⟨⟨f1,uX,l1⟩,h2,rfl,rfl,rfl⟩:=hr;exact qy hs.2 h2
theorem de:∀(n:Nat) {c:Code} {f f':AF} {h h':ab} {ex:Ex},dH c=true→aX E base n c f h=some (ex,f',h')→h'=h
 |0,c,f,f',h,h',ex,_,hr=>by simp[aX]at hr
 |n+1,c,f,f',h,h',ex,hs,hr=>by
  cases c with
  |skip=>simp[aX]at hr;exact hr.2.2.symm
  |exit id=>simp[aX]at hr;exact hr.2.2.symm
  |ret=>simp[aX]at hr;exact hr.2.2.symm
  |region id ops draw=>
   simp only[aX,kZ]at hr;simp only[dH]at hs;cases draw with
   |false=>
    simp only[Option.bind_eq_some_iff,Option.some.injEq,Prod.mk.injEq]at hr;obtain⟨⟨f1,h1⟩,h2,rfl,rfl,rfl⟩:=hr;exact sQ hs h2
   |true=>
    simp only[aj,Option.bind_eq_some_iff,Option.some.injEq,Prod.mk.injEq]at hr;obtain⟨_,⟨f1,h1,l1⟩,h2,_,rfl,rfl,rfl⟩:=hr;exact qy hs h2
  |seq a b=>
   simp only[dH,Bool.and_eq_true]at hs;simp only[aX]at hr;split at hr
   ·rename_i f1 h1 hb;rw[de n hs.2 hr,de n hs.1 hb]
   ·exact de n hs.1 hr
  |cond q a b=>
   simp only[dH,Bool.and_eq_true]at hs;simp only[aX,Option.bind_eq_some_iff]at hr;obtain⟨v,_,w,_,hr⟩:=hr;cases w with
   |true=>exact de n hs.1 hr
   |false=>exact de n hs.2 hr
  |block id b=>
   simp only[dH]at hs;simp only[aX]at hr;split at hr
   ·rename_i pj f1 h1 hb;have:=de n hs hb;rw[bZ]at hr;split at hr<;>(cases hr;exact this)
   ·exact de n hs hr
  |loop b=>
   simp only[dH]at hs;simp only[aX]at hr;split at hr
   ·rename_i f1 h1 hb;rw[de n (c:=.loop b) hs hr,de n hs hb]
   ·exact de n hs hr
  |_=>simp[dH]at hs
theorem Py {g:FuncId} {fn:Func} {code:Code} (hf:E.func g=some fn) (ho:∀b a,E.rF b g a=fun _=>none) (hb:fn.body=some code) (hc:dH code=true):yV E g:=by
 intro base n args h v h' hr;unfold iK fY at hr;simp only[hf,Option.bind_some,ho,hb,aj]at hr;obtain⟨_,hr⟩:=hr;split at hr
 ·rename_i f1 h1 he;simp only[Option.bind_eq_some_iff,Option.some.injEq,Prod.mk.injEq]at hr;obtain⟨vs,_,rfl,rfl⟩:=hr;exact de n hc he
 ·rename_i f1 h1 he;simp only[Option.bind_eq_some_iff,Option.some.injEq,Prod.mk.injEq]at hr;obtain⟨vs,_,rfl,rfl⟩:=hr;exact de n hc he
 ·cases hr
end
theorem VC.lY {E:Env} {g:FuncId} {c m0:Nat} {args:List TV} {o:Ob} {cs:List TV} {R:TV→Ob→Nat→Prop} (hl:look o m0=some (.cells cs))
 (hw:jE false (VC E) g args ((eH cs c).2++fq o m0 (.cells (eH cs c).1)) (c+(eH cs c).2.length) (fun r o' c' _=>R r o' c')):VC E g c args o R:=by
 intro base ρ F h S cq hT hM hO hA;have xN:=hO.ct m0 _ hl;generalize hSm:S m0=Sm at xN;cases xN with
 |cells hb hg ht hc=>
  rename_i S1 b bd cs';obtain⟨Ss,ls,b1,b2,b3⟩:=hc.opened c;have vd:ls.length=(eH cs c).2.length:=b2.l2;have FM:(S m0).Perm ([(b,true)]++Ss.flatten):=by rw[hSm,←b1];exact List.Perm.refl _
  obtain⟨M1,hk⟩:=hM.opens hO (y1:=.cells (eH cs c).1) hl b2 FM (fun hm=>.cells (by rw[fR _ _ (hM.lt hl)];exact hb) hg ht (da.lN (b3 _ _ hm om (fun i q hq=>by rw[ua];exact hq))));obtain⟨sh,ids,U,J0,o0,R0,hvc,⟨jD,hO0,hi⟩,hK⟩:=hw;simp only[Bool.and_eq_true]at hi;obtain⟨hi,hU⟩:=hi;obtain⟨F1,Sh⟩:=kz M1 sh;have H1:=Sh.mem;obtain⟨S2,K1⟩:=H1.ex;obtain⟨S3,Ns,D⟩:=hO0.told H1 K1 hi hU;obtain⟨hand,OS⟩:=H1.hand K1 D;have V4:=Fy (zf:=Ir o0) H1 _ _ _ jD ((hA.rU hk).rU Sh.bA);obtain⟨n0,v,h',ρ',F',r,o',c',iD,hR,MC,hr⟩:=hvc base _ F1 h S3 cq (fun i cs hi=>let⟨b,q⟩:=hT i cs hi;⟨Sh.FF _ b,q⟩) hand OS V4
  obtain⟨MM,k1,k2,k3⟩:=H1.merge K1 hi D MC;exact⟨n0,v,h',_,F',_,_,_,iD,hK r o' c' hR,MM,k2 _ _ hr⟩
theorem VC.told {E:Env} {g:FuncId} {c:Nat} {args:List TV} {o:Ob} {R R2:TV→Ob→Nat→Prop} (H:VC E g c args o R)
 (hR:∀r o' c',R r o' c'→∃(sh:List Nat) (ids:List (Option Nat)) (U:List Nat) (r2:TV) (o2:Ob),(Y9 ids (cO sh o') r r2∧JY ids (cO sh o') U o2∧(jf c' ids&&qd c 0 ids&&nu ids U)=true)∧R2 r2 o2 ids.length):VC E g c args o R2:=by
 intro base ρ F h S cq hT hM hO hA;obtain⟨n,v,h',ρ',F',r,o',c',iD,hr,M',hv⟩:=H base ρ F h S cq hT hM hO hA;obtain⟨sh,ids,U,r2,o2,⟨hle,hO2,hi⟩,hR2⟩:=hR r o' c' hr;simp only[Bool.and_eq_true]at hi;obtain⟨F1,S1⟩:=kz M' sh;have M2:=S1.mem.le hi.1.1 hi.1.2 hi.2 hO2;exact⟨n,v,h',_,F1,r2,o2,ids.length,iD,hR2,M2,qV S1.mem _ _ _ hle (S1.bA _ _ hv)⟩
end Go.M
