/-
  Part 24 of the library that the proof leans on.
-/
import Derived.Test.YtjklkjjfnipcnaaGreatDoorL4
noncomputable section
namespace Go.M
open Go
def qy:List Item→Prop
 | .call .. ::_=>False
 |_=>True
def gB (F:Fence) (n:Nat) (P:Program) (c:Code) (R:List PanicEntry→Act→World→Prop) (a:Act) (w:World):Prop:=
 ∀(b:Frame) (k:List Item) (cs:List Frame),b.roundOf=F.round→F.fn b.fn→F.room (cs.length+1+n)→
  ∃chain a' w' todo,R chain a' w'∧qy todo∧StepsIn (Machine.fenced P F) P (lone (b.atR a (.code c::k)) cs w) (lone {b.atR a' todo with mode:=.panicking chain} cs w')
def lU (R:List PanicEntry→Act→World→Prop):Exit→Act→World→Prop
 | .panic chain,a,w=>R chain a w
 |_,_,_=>False
section
variable {F:Fence} {n:Nat} {P:Program} {R:List PanicEntry→Act→World→Prop} {a:Act} {w:World}
theorem gB.wp {c:Code} {Q:Exit→Act→World→Prop} (h:gB F n P c R a w) (hq:∀chain a w,R chain a w→Q (.panic chain) a w):c.wpIn F n P Q a w:=by
 intro b k cs iI hb hr;obtain⟨chain,a',w',todo,h1,_,h3⟩:=h b k cs iI hb hr;exact⟨.panic chain,a',w',hq _ _ _ h1,todo,h3⟩
theorem gB.mono {c:Code} {R':List PanicEntry→Act→World→Prop} (h:gB F n P c R a w) (hq:∀chain a w,R chain a w→R' chain a w):gB F n P c R' a w:=by
 intro b k cs iI hb hr;obtain⟨chain,a',w',todo,h1,h2,h3⟩:=h b k cs iI hb hr;exact⟨chain,a',w',todo,hq _ _ _ h1,h2,h3⟩
theorem FZ {x y:Code} (h:gB F n P x R a w):gB F n P (.seq x y) R a w:=by
 intro b k cs iI hb hr;obtain⟨chain,a',w',todo,h1,h2,h3⟩:=h b (.code y::k) cs iI hb hr;exact⟨chain,a',w',todo,h1,h2,.head (fenced_calm hb hr rfl) stepR_seq h3⟩
def zu (K:Act→World→Prop):Exit→Act→World→Prop
 | .normal,a,w=>K a w
 |_,_,_=>False
theorem Df {x y:Code} (h:x.wpIn F n P (zu (gB F n P y R)) a w):gB F n P (.seq x y) R a w:=by
 intro b k cs iI hb hr;obtain⟨e,a1,w1,hq,F4⟩:=h b (.code y::k) cs iI hb hr;cases e with
 |normal=>
  obtain⟨chain,a',w',todo,h1,h2,h3⟩:=hq b k cs iI hb hr;exact⟨chain,a',w',todo,h1,h2,.head (fenced_calm hb hr rfl) stepR_seq (StepsIn.trans F4 h3)⟩
 |_=>exact hq.elim
theorem xX {c:Operand} {x y:Code} {t:Bool} (hc:a.eval c= .bool t) (h:gB F n P (if t then x else y) R a w):gB F n P (.cond c x y) R a w:=by
 intro b k cs iI hb hr;obtain⟨chain,a',w',todo,h1,h2,h3⟩:=h b k cs iI hb hr;exact⟨chain,a',w',todo,h1,h2,.head (fenced_calm hb hr rfl) (stepR_cond hc) h3⟩
theorem Dg {id:Nat} {c:Code} (h:gB F n P c R a w):gB F n P (.block id c) R a w:=by
 intro b k cs iI hb hr;obtain⟨chain,a',w',todo,h1,h2,h3⟩:=h b (.inBlock id::k) cs iI hb hr;exact⟨chain,a',w',todo,h1,h2,.head (fenced_calm hb hr rfl) stepR_block h3⟩
def ij (F:Fence) (n:Nat) (P:Program) (c:Code) (R:List PanicEntry→Act→World→Prop):Nat→Act→World→Prop
 |0,_,_=>False
 |m+1,a,w=>gB F n P c R a w∨c.wpIn F n P (zu (ij F n P c R m)) a w
theorem F5 {c:Code} {m:Nat} (h:ij F n P c R m a w):gB F n P (.loop c) R a w:=by
 have key:∀(m:Nat) (a:Act) (w:World),ij F n P c R m a w→∀(b:Frame) (k:List Item) (cs:List Frame),b.roundOf=F.round→F.fn b.fn→F.room (cs.length+1+n)→
  ∃chain a' w' todo,R chain a' w'∧qy todo∧StepsIn (Machine.fenced P F) P (lone (b.atR a (.code c:: .inLoop c::k)) cs w) (lone {b.atR a' todo with mode:=.panicking chain} cs w'):=by
  intro m
  induction m with
  |zero=>intro a w h;exact h.elim
  |succ m ih=>
   intro a w h b k cs iI hb hr;rcases h with h|h
   ·exact h b (.inLoop c::k) cs iI hb hr
   ·obtain⟨e,a1,w1,hq,F4⟩:=h b (.inLoop c::k) cs iI hb hr;cases e with
    |normal=>
     obtain⟨chain,a',w',todo,h1,h2,h3⟩:=ih a1 w1 hq b k cs iI hb hr;exact⟨chain,a',w',todo,h1,h2,StepsIn.trans F4 (.head (fenced_calm hb hr rfl) stepR_inLoop h3)⟩
    |_=>exact hq.elim
 intro b k cs iI hb hr;obtain⟨chain,a',w',todo,h1,h2,h3⟩:=key m a w h b k cs iI hb hr;exact⟨chain,a',w',todo,h1,h2,.head (fenced_calm hb hr rfl) stepR_loop h3⟩
theorem Eh {ops:Array Oper} (l:List Nat):∀(a:Act) (w:World),wpOpsIn F n P ops (lU R) l a w→∀(b:Frame) (k:List Item) (cs:List Frame),b.roundOf=F.round→F.fn b.fn→F.room (cs.length+1+n)→
 ∃chain a' w' todo,R chain a' w'∧qy todo∧StepsIn (Machine.fenced P F) P (lone (b.atR a (.inRegion ops l::k)) cs w) (lone {b.atR a' todo with mode:=.panicking chain} cs w'):=by
 induction l with
 |nil=>intro a w h;exact h.elim
 |cons i rest ih=>
  intro a w h b k cs iI hb hr;simp only[wpOpsIn]at h
  have more:∀{a1:Act} {w1:World},(lone (b.atR a (.inRegion ops (i::rest)::k)) cs w).fenced P F→wpOpsIn F n P ops (lU R) rest a1 w1→
   step P (lone (b.atR a (.inRegion ops (i::rest)::k)) cs w)= .next (lone (b.atR a1 (.inRegion ops rest::k)) cs w1)→
   ∃chain a' w' todo,R chain a' w'∧qy todo∧StepsIn (Machine.fenced P F) P (lone (b.atR a (.inRegion ops (i::rest)::k)) cs w) (lone {b.atR a' todo with mode:=.panicking chain} cs w'):=by
   intro a1 w1 hf h1 hs;obtain⟨chain,a',w',todo,q1,q2,q3⟩:=ih a1 w1 h1 b k cs iI hb hr;exact⟨chain,a',w',todo,q1,q2,.head hf hs q3⟩
  cases ho:ops[i]? with
  |none=>
   simp only[ho]at h;have hs:=stepR_op_skip (P:=P) (b:=b) (a:=a) (k:=k) (cs:=cs) (w:=w) (ops:=ops) (i:=i) (rest:=rest) (by simp[ho]);simp only[ho,Option.bind_none,Act.put]at hs;exact more (fenced_noOper hb hr ho) h hs
  |some o=>
   simp only[ho]at h;cases hw:Region.wanted o (yielded ops a.tmps)with
   |false=>
    simp only[hw,if_false,Bool.false_eq_true]at h;have hs:=stepR_op_skip (P:=P) (b:=b) (a:=a) (k:=k) (cs:=cs) (w:=w) (ops:=ops) (i:=i) (rest:=rest) (by simp[ho,hw]);simp only[ho,Option.bind_some]at hs;exact more (fenced_oper hb hr ho h.1) h.2 hs
   |true=>
    simp only[hw,if_true,Oper.wpIn]at h;obtain⟨NZ,h⟩:=h;have h0:(lone (b.atR a (.inRegion ops (i::rest)::k)) cs w).fenced P F:=fenced_oper hb hr ho NZ;have hg:=stepGR_op (P:=P) (b:=b) (k:=k) (cs:=cs) (w:=w) (rest:=rest) ho hw;rw[iI]at hg;have AI:∀v,(b.atR a (.inRegion ops (i::rest)::k)).finish v=b.atR (a.put o.dst v) (.inRegion ops rest::k):=fun v=>by rw[Frame.finish_atR,ho];rfl
    have Q7:∀chain,(b.atR a (.inRegion ops (i::rest)::k)).raise chain={b.atR a (.inRegion ops (i::rest)::k)with mode:=.panicking chain}:=fun chain=>Frame.raise_atR _ _ _ _;simp only[Oper.uponIn]at h;split at h
    ·rename_i v w1 hx;exact more h0 h (step_lone_go (by rw[hg,←AI];simp[stepG.apply,hx]))
    ·rename_i w1 hx;exact more h0 h (step_lone_go (by rw[hg,←AI];simp[stepG.apply,hx]))
    ·rename_i d w1 hx;refine more h0 h (step_lone_go ?_);have e:({b.atR a (.inRegion ops (i::rest)::k)with defers:=d::a.defers}:Frame).finish undef=b.atR ({a with defers:=d::a.defers}.put o.dst undef) (.inRegion ops rest::k):=by
      have:=Frame.finish_atR b {a with defers:=d::a.defers} ops i rest k undef;rw[ho]at this;exact this
     rw[hg];simp only[stepG.apply,Sem.runT_eq,hx,GStep.bare_after];exact congrArg (fun fr=>GStep.go {frame:=fr,callers:=cs,status:=.running,dying:=none} w1) e
    ·rename_i f args w1 hx;obtain⟨hn,hF,h⟩:=h;have xY:F.room ((b.atR a (.inRegion ops (i::rest)::k)::cs).length+1+(n - 1)):=Fence.room_enter hr hn;obtain⟨e,w2,fr,hR,lV,Gn,pe⟩:=h (b.atR a (.inRegion ops (i::rest)::k)::cs) xY
     have wU:step P (lone (b.atR a (.inRegion ops (i::rest)::k)) cs w)= .next (lone (Frame.enter P f args .normal) (b.atR a (.inRegion ops (i::rest)::k)::cs) w1):=
      step_lone_go (by rw[hg];simp[stepG.apply,hx,Frame.atR])
     cases e with
     |returned v=>
      have hl:(lone fr (b.atR a (.inRegion ops (i::rest)::k)::cs) w2).fenced P F:=fenced_leaving (Gn▸hF) xY pe;obtain⟨chain,a',w',todo,q1,q2,q3⟩:=ih _ _ hR b k cs iI hb hr;refine⟨chain,a',w',todo,q1,q2,.head h0 wU (StepsIn.trans lV (.head hl (step_leave_returned pe) ?_))⟩;rw[AI];exact q3
     |panicked chain=>
      have hl:(lone fr (b.atR a (.inRegion ops (i::rest)::k)::cs) w2).fenced P F:=fenced_leaving (Gn▸hF) xY pe;refine⟨chain,a,w2,.inRegion ops (i::rest)::k,hR,trivial,.head h0 wU (StepsIn.trans lV (.one hl ?_))⟩;rw[←Q7];exact step_leave_panicked pe
     |outgrown=>obtain⟨_,_,hq⟩:=hR;exact hq.elim
    ·rename_i row args w1 hx;obtain⟨hn,h⟩:=h;obtain⟨v,w2,hR,lV⟩:=h (b.atR a (.inRegion ops (i::rest)::k)) cs (Fence.room_enter hr hn)
     have wU:step P (lone (b.atR a (.inRegion ops (i::rest)::k)) cs w)= .next (lone (Frame.ofRow P row args .normal) (b.atR a (.inRegion ops (i::rest)::k)::cs) w1):=
      step_lone_go (by rw[hg];simp[stepG.apply,hx,Frame.atR])
     obtain⟨chain,a',w',todo,q1,q2,q3⟩:=ih _ _ hR b k cs iI hb hr;refine⟨chain,a',w',todo,q1,q2,.head h0 wU (StepsIn.trans lV ?_)⟩;rw[AI];exact q3
    ·rename_i l f tmps c7 body w1 hx;obtain⟨hn,_,h⟩:=h;obtain⟨e,w2,hR,lV⟩:=h (b.atR a (.inRegion ops (i::rest)::k)) cs (Fence.room_enter hr hn)
     have wU:step P (lone (b.atR a (.inRegion ops (i::rest)::k)) cs w)= .next (lone (Frame.round l f tmps c7 body .normal) (b.atR a (.inRegion ops (i::rest)::k)::cs) w1):=
      step_lone_go (by rw[hg];simp[stepG.apply,hx,Frame.atR])
     cases e with
     |returned v=>
      obtain⟨chain,a',w',todo,q1,q2,q3⟩:=ih _ _ hR b k cs iI hb hr;rw[←AI]at q3;exact⟨chain,a',w',todo,q1,q2,.head h0 wU (StepsIn.trans lV q3)⟩
     |panicked chain=>
      have q3:StepsIn (Machine.fenced P F) P _ (lone ((b.atR a (.inRegion ops (i::rest)::k)).raise chain) cs w2):=lV;rw[Q7]at q3;exact⟨chain,a,w2,.inRegion ops (i::rest)::k,hR,trivial,.head h0 wU q3⟩
     |outgrown=>obtain⟨_,_,hq⟩:=hR;exact hq.elim
    ·rename_i v w1 hx;refine⟨_,a,w1,.inRegion ops (i::rest)::k,h,trivial,.one h0 (step_lone_go ?_)⟩;rw[hg,←Q7];simp[stepG.apply,hx]
    ·exact h.elim
theorem BH {id:Nat} {ops:Array Oper} (h:wpOpsIn F n P ops (lU R) (List.range ops.size) a w):gB F n P (.region id ops false) R a w:=by
 intro b k cs iI hb hr;obtain⟨chain,a',w',todo,h1,h2,h3⟩:=Eh _ a w h b k cs iI hb hr;exact⟨chain,a',w',todo,h1,h2,.head (fenced_calm hb hr rfl) stepR_region h3⟩
theorem Jb {id:Nat} {ops:Array Oper} (hm:P.follows .mixedOrders=true) (h:wpAnyIn F n P .any ops (lU R) ops.size (Array.replicate ops.size false) a {w with drawn:=w.drawn+1}):
 gB F n P (.region id ops true) R a w:=by
 intro b k cs iI hb hr;have hs:∀t,wpOpsIn F n P ops (lU R) (Region.schedule (P.follows .mixedOrders) ops t) a {w with drawn:=w.drawn+1}:=fun t=>by
  simp only[Region.schedule,hm,Bool.true_or,if_true];exact wpAnyIn_sound ops.size t _ a _ h
 obtain⟨chain,a',w',todo,h1,h2,h3⟩:=Eh _ a _ (hs _) b k cs iI hb hr;exact⟨chain,a',w',todo,h1,h2,.head (fenced_calm hb hr rfl) stepR_region_draw h3⟩
theorem vM {g:Operand} {ps:Array Tmp} {c7 body:Code}
 (h:∀fn,F.fn fn→∃(l:Nat) (mark:List Deferred) (w1:World) (d:Deferred) (R1:World) (f:FuncId) (args:Array Value) (w2:World),
  (Instr.enterLoop fn a.tmps ps c7 body F.round).run P w= .ok (l,mark) w1∧(resolve a.eval (rangeCall g l) 0).run P w1= .ok d R1∧(∀f',Target.leads P R1 d.target d.args=some f'→F.fn f')∧
  (invoke d.target d.args).run P R1= .ok (.enter f args) w2∧(F.depth.isSome=true→1≤n)∧
  CallsIn F (n - 1) P f args w2 fun | .panicked chain,w3=>R chain {a with defers:=mark++a.defers} w3|_,_=>False):gB F n P (.rangeFunc g ps c7 body) R a w:=by
 intro b k cs iI hb hr;obtain⟨l,mark,w1,d,R1,f,args,w2,he,kr,Q8,hinv,hn,hF,iZ⟩:=h b.fn hb;rw[←iI]at he;have h0:(lone (b.atR a (.code (.rangeFunc g ps c7 body)::k)) cs w).fenced P F:=by
  refine fenced_lone (.inl hb) (fun f' ph=>Q8 f' ?_) (Fence.room_le hr om);have jk:=Frame.eval_atR b a (.code (.rangeFunc g ps c7 body)::k);simp only[Frame.atR]at jk;simp only[Frame.about,Frame.atR,he,jk,kr]at ph;exact ph
 have wU:=stepR_rangeFunc (P:=P) (b:=b) (a:=a) (k:=k) (cs:=cs) (w:=w) he kr hinv;have xY:F.room ((b.atR {a with defers:=mark++a.defers} (.inRangeFunc l::k)::cs).length+1+(n - 1)):=Fence.room_enter hr hn;obtain⟨e,w3,fr,hR,lV,Gn,pe⟩:=iZ (b.atR {a with defers:=mark++a.defers} (.inRangeFunc l::k)::cs) xY;cases e with
 |panicked chain=>
  have hl:(lone fr (b.atR {a with defers:=mark++a.defers} (.inRangeFunc l::k)::cs) w3).fenced P F:=fenced_leaving (Gn▸hF) xY pe;refine⟨chain,_,w3,.inRangeFunc l::k,hR,trivial,.head h0 wU (StepsIn.trans lV (.one hl ?_))⟩;rw[←Frame.raise_atR];exact step_leave_panicked pe
 |_=>exact hR.elim
theorem Jc {fr c:Frame} {cs:List Frame} {chain:List PanicEntry} (hm:fr.mode= .panicking chain) (hd:fr.defers=[]) (hc:qy fr.todo):step P (lone fr (c::cs) w)= .next (lone (c.raise chain) cs w):=by
 have Uj:fr.catches P=false:=by
  unfold Frame.catches;split
  ·rename_i hx;rw[hx]at hc;exact hc.elim
  ·rfl
 exact step_lone_go (by simp[stepG,unwind,hm,hd,Uj])
theorem BI {l:Nat} {f:FuncId} {tmps:Array Value} {c7 body:Code} {Q:Ending→World→Prop} (hF:F.fn f) (Uk:F.depth=none)
 (h:c7.wpIn (F.inRound l) n P (zu fun a1 w1=>∃w2,(Instr.beginRound l).run P w1= .ok () w2∧gB (F.inRound l) n P body (fun chain a w=>a.defers=[]∧Q (.panicked chain) w) a1 w2) {tmps:=tmps,defers:=[]} w):
 RoundIn F n P l f tmps c7 body w Q:=by
 refine⟨hF,fun c cs hr=>?_⟩
 let b:Frame:={(default:Frame)with fn:=f,kind:=.normal,roundOf:=some l}
 have te:Frame.round l f tmps c7 body .normal=b.atR {tmps:=tmps,defers:=[]} [.code c7,.beginRound,.code body]:=by
  simp[Frame.round,Frame.atR,b]
 have jA:(F.inRound l).room ((c::cs).length+1+n):=hr;have DH:(F.inRound l).fn b.fn:=hF;obtain⟨e,a1,w1,hq,F4⟩:=h b [.beginRound,.code body] (c::cs) rfl DH jA;rw[←te]at F4;cases e with
 |normal=>
  obtain⟨w2,Q9,uh⟩:=hq;obtain⟨chain,a2,w3,todo,⟨hd,hR⟩,h2,h3⟩:=uh b [] (c::cs) rfl DH jA;have Ra:(lone {b.atR a2 todo with mode:=.panicking chain} (c::cs) w3).fenced P (F.inRound l):=by
   refine fenced_lone (.inl hF) (fun f' ph=>?_) (fun d hd=>by rw[show(F.inRound l).depth=F.depth from rfl,Uk]at hd;cases hd);have:({b.atR a2 todo with mode:=.panicking chain}:Frame).about P w3=none:=by
    simp[Frame.about,Frame.atR,hd]
   rw[this]at ph;cases ph
  refine⟨.panicked chain,w3,hR,?_⟩;exact(StepsIn.trans F4 (.one (fenced_calm (fr:=b.atR a1 [.beginRound,.code body]) DH jA rfl) (stepR_beginRound rfl Q9))).trans (StepsIn.trans h3 (.one Ra (Jc rfl hd h2)))
 |_=>exact hq.elim
end
inductive Rs where
 |val (v:Value) (h:ab)
 |gC (v:Value) (h:ab)
abbrev eB:=FuncId→List Value→ab→Option Rs
abbrev c9:=Nat→List Value→ab→Option Rs
def eB.cf (c:eB):dn:=fun g args h=>match c g args h with
 |some (.val v h')=>some (v,h')
 |_=>none
def c9.rf (r:c9):cP:=fun l args h=>match r l args h with
 |some (.val v h')=>some (v,h')
 |_=>none
inductive Ei where
 |go (e:Ex)
 |gC (v:Value)
abbrev nq:=Code→AF→ab→Option (Ei×AF×ab)
inductive Dh where
 |val (r:GB)
 |gC (v:Value) (h:ab)
def sG (E:Env) (f:AF) (o:Oper) (h:ab):Option Dh:=
 match o.op with
 | .panic x=>(ev E f x).bind fun v=>(match v with
  | .iface t u=>some (.gC (.iface t u) h)
  |_=>none)
 |_=>none
def dU (E:Env) (base:Nat) (cz:eB) (rz:c9) (o:Oper) (f:AF) (h:ab):Option Dh:=
 match aB E f o with
 |some v=>some (.val ⟨v,h,.pure⟩)
 |none=>match ba E f o with
  |some q=>(q.run h).bind fun v=>some (.val ⟨v,h,.rd q h⟩)
  |none=>match aP E f o with
   |some (m,hd)=>some (.val ⟨hd.val h.size,h.push (m.obj h.size),.alloc h (h.push (m.obj h.size))⟩)
   |none=>match bT E base f o h with
    |some (.val v,h')=>some (.val ⟨v,h',.ck h h'⟩)
    |some (.enter g args,h')=>(match cz g args h' with
     |some (.val v h2)=>some (.val ⟨v,h2,.ck h h2⟩)
     |some (.gC v h2)=>some (.gC v h2)
     |none=>none)
    |some (.round l args,h')=>(match rz l args h' with
     |some (.val v h2)=>some (.val ⟨v,h2,.ck h h2⟩)
     |some (.gC v h2)=>some (.gC v h2)
     |none=>none)
    |none=>sG E f o h
def tL (E:Env) (t:TypeId) (v:Value):Option Value:=
 (E.desc t).bind fun d=>(match d with
  | .interface _=>none
  |_=>(match v with
   | .nilIface=>(E.zero t).bind fun z=>some (.tuple #[z,.bool false])
   | .iface t' u=>bif Nat.beq t' t then some (.tuple #[u,.bool true])else(E.zero t).bind fun z=>some (.tuple #[z,.bool false])
   |_=>none))
def Jd (E:Env) (base:Nat) (cz:eB) (rz:c9) (o:Oper) (f:AF) (h:ab):Option Dh:=
 match o.op with
 | .typeAssert x _ t true=>(ev E f x).bind fun v=>(tL E t v).bind fun v=>some (.val ⟨v,h,.pure⟩)
 |_=>dU E base cz rz o f h
def vN (E:Env) (base:Nat) (cz:eB) (rz:c9) (ops:List Oper):List Oper→AF→ab→Option (Ei×AF×ab)
 |[],f,h=>some (.go .normal,f,h)
 |o::rest,f,h=>
  match wanted ops o f with
  |true=>(match Jd E base cz rz o f h with
   |some (.val r)=>vN E base cz rz ops rest (f.put o.dst r.v) r.h
   |some (.gC v h')=>some (.gC v,f,h')
   |none=>none)
  |false=>vN E base cz rz ops rest (f.put o.dst undef) h
def lW (E:Env) (base B:Nat) (μ:aS) (h:ab) (w:World):Rs→Ending→World→Prop
 | .val v h'=>fA E base B μ h w v h'
 | .gC v h'=>fun e w'=>∃v' az,e= .panicked [{v:=v',recovered:=false}]∧ak az v v'∧Step E base B μ h w az h' w'
def fB (P:Program) (E:Env) (base B:Nat) (cz:eB):Prop:=
 ∀(μ:aS) (h:ab) (w:World) (g:FuncId) (args:List Value) (args':Array Value) (r:Rs),cz g args h=some r→ao μ args args'.toList→aM E base B μ h w→
  ∀(F:Fence) (n:Nat),c4 F→CallsIn F n P g args' w (lW E base B μ h w r)
def gu (P:Program) (E:Env) (base B:Nat) (rz:c9):Prop:=
 ∀(μ:aS) (h:ab) (w:World) (l:Nat) (args:List Value) (r:Rs) (m:MT) (f0:AF) (ps:List Tmp) (c7 body:Code) (st:LoopState) (p:Option Code) (fn:FuncId) (tmps:Array Value),
  rz l args h=some r→h.get l=some (.loop st p f0 ps c7 body)→μ l=some m→aM E base B μ h w→bw μ (AF.fT (ps.zip args) f0) tmps→
  ∀(F:Fence) (n:Nat),c4 F→RoundIn F n P m.r fn tmps c7 body w (lW E base B μ h w r)
def fu (E:Env) (cz:eB):Prop:=∀g args h r,cz g args h=some r→(E.func g).isSome=true
def eY (rz:c9):Prop:=∀l args h r,rz l args h=some r→∃st p f0 ps c7 body,h.get l=some (.loop st p f0 ps c7 body)∧ps.length=args.length
section
variable {P:Program} {E:Env} {μ:aS} {f:AF} {a:Act} {base B:Nat} {h:ab} {w:World} {cz:eB} {rz:c9}
theorem eB.Ej {g:FuncId} {args:List Value} {h:ab} {v:Value} {h':ab}:cz.cf g args h=some (v,h')↔cz g args h=some (.val v h'):=by
 unfold eB.cf;split
 ·rename_i h1;rw[h1];simp
 ·rename_i h1;constructor
  ·intro h2;cases h2
  ·intro h2;exact absurd h2 (h1 _ _)
theorem c9.Ek {l:Nat} {args:List Value} {h:ab} {v:Value} {h':ab}:rz.rf l args h=some (v,h')↔rz l args h=some (.val v h'):=by
 unfold c9.rf;split
 ·rename_i h1;rw[h1];simp
 ·rename_i h1;constructor
  ·intro h2;cases h2
  ·intro h2;exact absurd h2 (h1 _ _)
theorem fB.cf (hc:fB P E base B cz):iR P E base B cz.cf:=fun μ h w g args args' v h' hr hv H F n hF=>hc μ h w g args args' (.val v h') (eB.Ej.1 hr) hv H F n hF
theorem gu.rf (hc:gu P E base B rz):hZ P E base B rz.rf:=fun μ h w l args v h' m f0 ps c7 body st p fn tmps hr hl hb H hf F n hF=>
 hc μ h w l args (.val v h') m f0 ps c7 body st p fn tmps (c9.Ek.1 hr) hl hb H hf F n hF
theorem fu.cf (hc:fu E cz):ia E cz.cf:=fun g args h r hr=>hc g args h (.val r.1 r.2) (eB.Ej.1 hr)
theorem eY.rf (hc:eY rz):fm rz.rf:=fun l args h r hr=>hc l args h (.val r.1 r.2) (c9.Ek.1 hr)
theorem lX {o:Oper} {r:GB} (hr:dU E base cz rz o f h=some (.val r)):cV E base cz.cf rz.rf o f h=some r:=by
 unfold dU at hr;unfold cV;split at hr
 ·rename_i v hp;rw[hp];simp only[Option.some.injEq,Dh.val.injEq]at hr;subst hr;rfl
 ·rename_i hp;rw[hp];split at hr
  ·rename_i q hq;rw[hq];simp only[Option.bind_eq_some_iff,Option.some.injEq,Dh.val.injEq]at hr;obtain⟨v,hv,rfl⟩:=hr;simp only[hv];rfl
  ·rename_i hq;rw[hq];split at hr
   ·rename_i m hd ha;rw[ha];simp only[Option.some.injEq,Dh.val.injEq]at hr;subst hr;rfl
   ·rename_i ha;rw[ha];split at hr
    ·rename_i v h' he;rw[he];simp only[Option.some.injEq,Dh.val.injEq]at hr;subst hr;rfl
    ·rename_i g args h' he;rw[he];split at hr
     ·rename_i v h2 hc;simp only[Option.some.injEq,Dh.val.injEq]at hr;subst hr;simp only[eB.cf,hc];rfl
     ·cases hr
     ·cases hr
    ·rename_i l args h' he;rw[he];split at hr
     ·rename_i v h2 hc;simp only[Option.some.injEq,Dh.val.injEq]at hr;subst hr;simp only[c9.rf,hc];rfl
     ·cases hr
     ·cases hr
    ·unfold sG at hr;split at hr
     ·simp only[Option.bind_eq_some_iff]at hr;obtain⟨v,_,hr⟩:=hr;split at hr<;>cases hr
     ·cases hr
theorem Je {o:Oper} {r:Dh} {k:ab} (h:dU E base cz rz o f k=some r):∀c,o.op≠ .defer c:=by
 intro c hc;unfold dU at h;simp only[aB,ba,aP,bT,hc,sG]at h;cases h
theorem BJ {o:Oper} {l:Nat} {args:List Value} {h':ab} (he:bT E base f o h=some (.round l args,h')):h'=h:=by
 obtain⟨dst,op,type,pos,after,guard⟩:=o;cases op<;>simp only[bT]at he<;>first|cases he|skip
 all_goals simp only[Option.bind_eq_some_iff,Option.some.injEq,Prod.mk.injEq,ae,reduceCtorEq,false_and,and_false,exists_false]at he
 ·obtain⟨_,_,_,_,he⟩:=he;split at he
  ·split at he<;>simp at he
  ·cases he
 ·obtain⟨_,_,he⟩:=he;split at he
  ·first|(simp at he;done)|(obtain⟨_,_,he⟩:=he;simp at he;done)|(simp only[Option.bind_eq_some_iff]at he;obtain⟨_,_,he⟩:=he;cases he)
  ·try simp only[Option.bind_eq_some_iff]at he
   obtain⟨_,_,he⟩:=he;split at he
   ·simp at he
   ·simp only[Option.some.injEq,Prod.mk.injEq]at he;exact he.2.symm
   ·cases he
  ·cases he
theorem xZ (hE:aU P E) (vO:fB P E base B cz) (x4:gu P E base B rz) (j6:fu E cz) (j7:eY rz) {F:Fence} (hF:c4 F) {n:Nat} (hf:bw μ f a.tmps) (H:aM E base B μ h w) {o:Oper} {v:Value} {h2:ab}
 (hr:dU E base cz rz o f h=some (.gC v h2)) {a1:Act} (hex:execOp a1.eval o=execOp a.eval o) {next:Act→World→Prop} {Q:Exit→Act→World→Prop}
 (hn:∀az v' w',ak az v v'→Step E base B μ h w az h2 w'→Q (.panic [{v:=v',recovered:=false}]) a1 w'):o.wpIn F n P a1 w next Q:=by
 have hg:eE E μ:=H.cd;refine⟨fun _ _=>hF.fn _,?_⟩;rw[Oper.semAt_eq _ _ _ (Je hr),hex];unfold dU at hr;split at hr
 ·cases hr
 ·split at hr
  ·simp only[Option.bind_eq_some_iff]at hr;obtain⟨_,_,hr⟩:=hr;cases hr
  ·split at hr
   ·cases hr
   ·split at hr
    ·cases hr
    ·rename_i g args h' he;split at hr
     ·cases hr
     ·rename_i v2 h3 hc;simp only[Option.some.injEq,Dh.gC.injEq]at hr;obtain⟨rfl,rfl⟩:=hr;obtain⟨args',e,q1,q2⟩:=ly hE hf H he (j6 _ _ _ _ hc);subst e;rw[q2];refine⟨hF.ok n,(vO μ h' w g args args' _ hc q1 H F (n - 1) hF).mono ?_⟩;rintro e w' ⟨v',az,rfl,k1,k2⟩;exact hn az v' w' k1 k2
     ·cases hr
    ·rename_i l args h' he;split at hr
     ·cases hr
     ·rename_i v2 h3 hc;simp only[Option.some.injEq,Dh.gC.injEq]at hr;obtain⟨rfl,rfl⟩:=hr;obtain⟨st,p,f0,ps,c7,body,hl,hlen⟩:=j7 _ _ _ _ hc;have hh:=BJ he;subst hh;obtain⟨m,args',lo,_,hb,hw,q1,q2,q3⟩:=lz (P:=P) hf H he hl hlen;rw[q2];refine⟨hF.ok n,(x4 μ h' w l args _ m f0 ps c7 body st p lo.fn _ hc hl hb H (jF q3 q1) F (n - 1) hF).mono ?_⟩;rintro e w' ⟨v',az,rfl,k1,k2⟩;exact hn az v' w' k1 k2
     ·cases hr
    ·unfold sG at hr;split at hr
     ·rename_i x e7;simp only[Option.bind_eq_some_iff]at hr;obtain⟨v1,h1,hr⟩:=hr;split at hr
      ·rename_i t u;simp only[Option.some.injEq,Dh.gC.injEq]at hr;obtain⟨rfl,rfl⟩:=hr;have hv:=aL hg hf h1;obtain⟨u',e,hu⟩:∃u',a.eval x= .iface t u'∧ak μ (.iface t u) (.iface t u'):=by
        generalize a.eval x=q at hv;cases hv with
        |lit hh=>simp[ar]at hh
        |iface hh=>exact⟨_,rfl,.iface hh⟩
       have he:(execOp a.eval o).run P w= .halt (.panic (.iface t u')) w:=by
        unfold execOp;rw[e7];simp only[e,Instr.panic,Sem.run_bind];rfl
       rw[he];exact hn μ _ w hu (.refl H)
      ·cases hr
     ·cases hr
theorem Di (hE:aU P E) {F:Fence} (hF:c4 F) {n:Nat} (hf:bw μ f a.tmps) (H:aM E base B μ h w) {o:Oper} {x:Operand} {it t:TypeId} (ho:o.op= .typeAssert x it t true) {u v:Value} (hx:ev E f x=some u) (hv:tL E t u=some v)
 {next:Act→World→Prop} {Q:Exit→Act→World→Prop} (hn:∀v',ak μ v v'→next (a.put o.dst v') w):o.wpIn F n P a w next Q:=by
 have hg:eE E μ:=H.cd;refine⟨fun _ _=>hF.fn _,?_⟩;rw[Oper.semAt_eq _ _ _ (by rw[ho];intro c hc;cases hc)];have hr:=aL hg hf hx;unfold tL at hv;simp only[Option.bind_eq_some_iff]at hv;obtain⟨d,hd,hv⟩:=hv
 have zr:∀z,E.zero t=some z→ak μ (.tuple #[z,.bool false]) (.tuple #[z,.bool false]):=fun z hz=>
  .cq (by simpa using ao.cons (.bJ μ (hE.zero t z hz).2) (.cons (.bool μ false) .nil))
 have key:∃v',ak μ v v'∧(Instr.typeAssert (a.eval x) it t true).run P w= .ok v' w:=by
  split at hv
  ·cases hv
  ·rename_i Cb;unfold Instr.typeAssert;simp only[Sem.run_bind,aA hE hd w,Result.andThen_ok];split at hv
   ·simp only[Option.bind_eq_some_iff,Option.some.injEq]at hv;obtain⟨z,hz,rfl⟩:=hv;have e:a.eval x= .nilIface:=by
     generalize a.eval x=q at hr;cases hr;rfl
    rw[e];refine⟨_,zr z hz,?_⟩;cases d<;>first|exact absurd rfl (Cb _)|simp[gM hE hz w,Result.andThen_ok]
   ·rename_i t' u1;obtain⟨u',e,hu⟩:∃u',a.eval x= .iface t' u'∧ak μ u1 u':=by
     generalize a.eval x=q at hr;cases hr with
     |lit hh=>simp[ar]at hh
     |iface hh=>exact⟨_,rfl,hh⟩
    rw[e];rw[bB]at hv;by_cases hb:t'=t
    ·subst hb;rw[if_pos (beq_iff.2 rfl)]at hv;simp only[Option.some.injEq]at hv;subst hv;refine⟨_,.cq (by simpa using ao.cons hu (.cons (.bool μ true) .nil)),?_⟩;cases d<;>first|exact absurd rfl (Cb _)|simp
    ·rw[if_neg (fun hh=>hb (beq_iff.1 hh))]at hv;simp only[Option.bind_eq_some_iff,Option.some.injEq]at hv;obtain⟨z,hz,rfl⟩:=hv;refine⟨_,zr z hz,?_⟩;cases d<;>first|exact absurd rfl (Cb _)|simp[hb,gM hE hz w,Result.andThen_ok]
   ·cases hv
 obtain⟨v',q1,q2⟩:=key;have he:(execOp a.eval o).run P w= .ok (.value v') w:=by
  unfold execOp;rw[ho];simp only[Sem.run_bind,q2,Result.andThen_ok];rfl
 rw[he];exact hn v' q1
theorem sH {o:Oper} {r:Dh} (hr:Jd E base cz rz o f h=some r):
 (∃x it t u v,o.op= .typeAssert x it t true∧ev E f x=some u∧tL E t u=some v∧r= .val ⟨v,h,.pure⟩)∨dU E base cz rz o f h=some r:=by
 unfold Jd at hr;split at hr
 ·rename_i x it t e7;simp only[Option.bind_eq_some_iff,Option.some.injEq]at hr;obtain⟨u,hx,v,hv,rfl⟩:=hr;exact .inl ⟨x,it,t,u,v,e7,hx,hv,rfl⟩
 ·exact .inr hr
theorem nu (hE:aU P E) (vO:fB P E base B cz) (x4:gu P E base B rz) (j6:fu E cz) (j7:eY rz) {F:Fence} (hF:c4 F) {n:Nat} {ops:Array Oper} {Q:Exit→Act→World→Prop} {ex:Ei} {f':AF} {h':ab}:∀(rest:List Oper) (k:Nat) (μ:aS) (f:AF) (h:ab) (a:Act) (w:World),
 (∀j,rest[j]? =ops[k+j]?)→vN E base cz rz ops.toList rest f h=some (ex,f',h')→bw μ f a.tmps→aM E base B μ h w→
 (match ex with
  | .go e=>e= .normal→∀az a' w',bw az f' a'.tmps→a'.defers=a.defers→Step E base B μ h w az h' w'→Q .normal a' w'
  | .gC v=>∀az v' a' w',bw az f' a'.tmps→ak az v v'→a'.defers=a.defers→Step E base B μ h w az h' w'→Q (.panic [{v:=v',recovered:=false}]) a' w')→wpOpsIn F n P ops Q (List.range' k rest.length) a w
 |[],k,μ,f,h,a,w,_,ha,hf,H,hQ=>by
  simp only[vN,Option.some.injEq,Prod.mk.injEq]at ha;obtain⟨rfl,rfl,rfl⟩:=ha;exact hQ rfl μ a w hf rfl (.refl H)
 |o::rest,k,μ,f,h,a,w,hk,ha,hf,H,hQ=>by
  have h0:ops[k]? =some o:=by simpa using(hk 0).symm
  have l6:∀j,rest[j]? =ops[k+1+j]? :=fun j=>by have:=hk (j+1);simpa[Nat.add_assoc,Nat.add_comm 1 j]using this
  have hp:∀v',(a.put o.dst v').defers=a.defers:=fun v'=>by cases o.dst<;>rfl
  have go:∀(b6:aS) (v v1:Value) (h1:ab) (w1:World),vN E base cz rz ops.toList rest (f.put o.dst v) h1=some (ex,f',h')→ak b6 v v1→Step E base B μ h w b6 h1 w1→wpOpsIn F n P ops Q (List.range' (k+1) rest.length) (a.put o.dst v1) w1:=by
   intro b6 v v1 h1 w1 bH hv s1;refine nu hE vO x4 j6 j7 hF rest (k+1) b6 _ h1 _ w1 l6 bH ((hf.mono s1.le).put hv o.dst) s1.rel ?_;cases ex with
   |go e=>exact fun he od a2 w2 p1 p2 p3=>hQ he od a2 w2 p1 (p2.trans (hp v1)) (s1.trans p3)
   |gC v=>exact fun od v2 a2 w2 p0 p1 p2 p3=>hQ od v2 a2 w2 p0 p1 (p2.trans (hp v1)) (s1.trans p3)
  simp only[List.length_cons,List.range'_succ,wpOpsIn,h0,gO hf];simp only[vN]at ha;split at ha
  ·rename_i hw;rw[if_pos hw];split at ha
   ·rename_i r hr;rcases sH hr with⟨x,it,t,u,v,e7,hx,hv,e⟩|hr
    ·cases e;exact Di hE hF hf H e7 hx hv fun v' vZ=>go μ v v' h w ha vZ (.refl H)
    ·exact Cg hE vO.cf x4.rf j6.cf j7.rf hF hf H (lX hr) fun az v' w' q1 q2=>go az r.v v' r.h w' ha q1 q2
   ·rename_i v h2 hr;simp only[Option.some.injEq,Prod.mk.injEq]at ha;obtain⟨rfl,rfl,rfl⟩:=ha;rcases sH hr with⟨x,it,t,u,v',e7,hx,hv,e⟩|hr
    ·cases e
    ·exact xZ hE vO x4 j6 j7 hF hf H hr rfl fun az v' w' q1 q2=>hQ az v' a w' (hf.mono q2.le) q1 rfl q2
   ·cases ha
  ·rename_i hw;rw[if_neg (by rw[hw];simp)];exact⟨fun _ _=>hF.fn _,go μ undef undef h w ha (.undef μ) (.refl H)⟩
end
inductive N0 where
 |all (f:AF) (h:ab) (l:List cg)
 |gC (i:Nat) (f:AF) (h:ab) (v:Value) (h':ab)
def nv (E:Env) (base:Nat) (cz:eB) (rz:c9) (ops:List Oper):List Oper→AF→ab→Option N0
 |[],f,h=>some (.all f h [])
 |o::rest,f,h=>
  match wanted ops o f with
  |true=>(match dU E base cz rz o f h with
   |some (.val r)=>(match nv E base cz rz ops rest (f.put o.dst r.v) r.h with
    |some (.all f' h' l)=>some (.all f' h' (r.log::l))
    |some (.gC i f1 h1 v h')=>some (.gC (i+1) f1 h1 v h')
    |none=>none)
   |some (.gC v h')=>some (.gC 0 f h v h')
   |none=>none)
  |false=>(match nv E base cz rz ops rest (f.put o.dst undef) h with
   |some (.all f' h' l)=>some (.all f' h' (.pure::l))
   |some (.gC i f1 h1 v h')=>some (.gC (i+1) f1 h1 v h')
   |none=>none)
def eW (o:Oper):Oper:={o with op:=.call {callee:=.builtin .clear,args:= #[.const (.map none)]++o.op.operands,argTypes:= #[0]}}
def Jf (o:Oper):Oper:={o with op:=.move (.const (.bool true)),guard:=none}
def gy (bs:List Nat) (i:Nat):Nat→List Oper→List Oper
 |_,[]=>[]
 |j,o::l=>(bif Nat.beq j i then eW o else bif (bs.getD j 0).testBit i then Jf o else o)::gy bs i (j+1) l
theorem iH (bs:List Nat) (i:Nat):∀(l:List Oper) (j k:Nat),(gy bs i j l)[k]? =(l[k]?).map fun o=>bif Nat.beq (j+k) i then eW o else bif (bs.getD (j+k) 0).testBit i then Jf o else o
 |[],j,k=>by simp[gy]
 |o::l,j,0=>by simp[gy]
 |o::l,j,k+1=>by
  simp only[gy,List.getElem?_cons_succ];rw[iH bs i l (j+1) k,show j+1+k=j+(k+1) by omega]
theorem sI (bs:List Nat) (i:Nat):∀(l:List Oper) (j:Nat),(gy bs i j l).length=l.length
 |[],j=>rfl
 |o::l,j=>by simp[gy,sI bs i l (j+1)]
theorem sJ (bs:List Nat) (i:Nat) (l:List Oper) (k:Nat):((gy bs i 0 l)[k]?).bind (·.dst)=(l[k]?).bind (·.dst):=by
 rw[iH];cases l[k]? with
 |none=>rfl
 |some o=>
  simp only[Option.map_some,Option.bind_some];cases Nat.beq (0+k) i<;>cases(bs.getD (0+k) 0).testBit i<;>rfl
theorem lY {ops Jg:List Oper} (hd:∀k:Nat,(ops[k]?).bind (·.dst)=(Jg[k]?).bind (·.dst)) (o:Oper) (f:AF):wanted ops o f=wanted Jg o f:=by
 unfold wanted;split
 ·rfl
 ·rw[hd]
theorem Dj {ops Jg:List Oper} (hd:∀k:Nat,(ops[k]?).bind (·.dst)=(Jg[k]?).bind (·.dst)) (o:Oper):looks ops (eW o)=looks Jg o:=by
 unfold looks eW
 congr 1
 ·simp[Op.operands,Call.operands]
 ·simp only
  split
  ·rw[hd]
  ·rfl
section
variable {P:Program} {E:Env} {base B:Nat} {cz:eB} {rz:c9}
theorem rR {ops:List Oper}:∀{rest:List Oper} {f:AF} {h:ab} {f':AF} {h':ab} {l:List cg},nv E base cz rz ops rest f h=some (.all f' h' l)→fY E base cz.cf rz.rf ops rest f h=some (f',h',l)
 |[],f,h,f',h',l,hr=>by
  simp only[nv,Option.some.injEq,N0.all.injEq]at hr;obtain⟨rfl,rfl,rfl⟩:=hr;rfl
 |o::rest,f,h,f',h',l,hr=>by
  simp only[nv]at hr;simp only[fY];split at hr
  ·rename_i hw;rw[hw];split at hr
   ·rename_i r bH;split at hr
    ·rename_i f2 h2 l2 l4;simp only[Option.some.injEq,N0.all.injEq]at hr;obtain⟨rfl,rfl,rfl⟩:=hr;simp only[lX bH,Option.bind_some,rR l4]
    ·cases hr
    ·cases hr
   ·cases hr
   ·cases hr
  ·rename_i hw;rw[hw];split at hr
   ·rename_i f2 h2 l2 l4;simp only[Option.some.injEq,N0.all.injEq]at hr;obtain⟨rfl,rfl,rfl⟩:=hr;simp only[Option.bind_some,rR l4]
   ·cases hr
   ·cases hr
theorem x5 {ops da:List Oper} (hd:∀k:Nat,(da[k]?).bind (·.dst)=(ops[k]?).bind (·.dst)) {fs:Nat→AF} {hs:Nat→ab} {vs:Nat→Value} {lg:Nat→cg} (T:Trace E base cz.cf rz.rf da da fs hs vs lg):
 ∀{rest:List Oper} {f:AF} {h:ab} {i:Nat} {f1:AF} {h1:ab} {v:Value} {h2:ab} (k:Nat),nv E base cz rz ops rest f h=some (.gC i f1 h1 v h2)→(∀j:Nat,rest[j]? =ops[k+j]?)→
  (∀j:Nat,j<i→da[k+j]? =ops[k+j]?)→fs k=f→hs k=h→fs (k+i)=f1∧hs (k+i)=h1∧∃o,ops[k+i]? =some o∧wanted ops o f1=true∧dU E base cz rz o f1 h1=some (.gC v h2)
 |[],f,h,i,f1,h1,v,h2,k,hr,_,_,_,_=>by simp[nv]at hr
 |o::rest,f,h,i,f1,h1,v,h2,k,hr,l4,jG,ef,eh=>by
  have h0:ops[k]? =some o:=by simpa using(l4 0).symm
  have N1:∀j:Nat,rest[j]? =ops[k+1+j]? :=fun j=>by have:=l4 (j+1);simpa[Nat.add_assoc,Nat.add_comm 1 j]using this
  have more:∀{i':Nat} {v':Value} {hn:ab},i=i'+1→nv E base cz rz ops rest (f.put o.dst v') hn=some (.gC i' f1 h1 v h2)→vs k=v'→hs (k+1)=hn→fs (k+i)=f1∧hs (k+i)=h1∧∃o,ops[k+i]? =some o∧wanted ops o f1=true∧dU E base cz rz o f1 h1=some (.gC v h2):=by
   intro i' v' hn ei bH RO Mk;have Xt:da[k]? =some o:=by
    have:=jG 0 om;simpa[h0]using this
   have:=x5 hd T (k+1) bH N1 (fun j hj=>by have:=jG (j+1) om;simpa[Nat.add_assoc,Nat.add_comm 1 j]using this) (by rw[T.put k o Xt,ef,RO]) Mk;rw[show k+1+i'=k+i by omega]at this;exact this
  simp only[nv]at hr;have Rb:i≠0→_:=fun hi=>T.run k o (by have:=jG 0 om;simpa[h0]using this);split at hr
  ·rename_i hw;split at hr
   ·rename_i r bH;split at hr
    ·cases hr
    ·rename_i i' RC tf v' yh Ul;simp only[Option.some.injEq,N0.gC.injEq]at hr;obtain⟨rfl,rfl,rfl,rfl,rfl⟩:=hr;rcases Rb om with⟨_,q⟩|⟨q,_⟩
     ·rw[ef,eh,lX bH]at q;simp only[Option.some.injEq]at q;subst q;exact more rfl Ul rfl rfl
     ·rw[ef,lY hd,hw]at q;cases q
    ·cases hr
   ·rename_i v' yh bH;simp only[Option.some.injEq,N0.gC.injEq]at hr;obtain⟨rfl,rfl,rfl,rfl,rfl⟩:=hr;exact⟨ef,eh,o,h0,hw,bH⟩
   ·cases hr
  ·rename_i hw;split at hr
   ·cases hr
   ·rename_i i' RC tf v' yh Ul;simp only[Option.some.injEq,N0.gC.injEq]at hr;obtain⟨rfl,rfl,rfl,rfl,rfl⟩:=hr;rcases Rb om with⟨q,_⟩|⟨_,q1,q2,_⟩
    ·rw[ef,lY hd,hw]at q;cases q
    ·exact more rfl Ul q1 (q2.trans eh)
   ·cases hr
theorem Dk {cf:dn} {rf:cP} {o:Oper} {f:AF} {h:ab} {r:GB} (hr:cV E base cf rf (eW o) f h=some r):r.h=h∧r.log= .ck h h:=by
 have h1:aB E f (eW o)=none:=by
  simp only[aB,eW];cases zR E f ((#[Operand.const (.map none)]++o.op.operands).toList)<;>simp[ld]
 have h2:ba E f (eW o)=none:=by
  simp only[ba,eW]
 have h3:aP E f (eW o)=none:=by simp[aP,eW]
 have h4:∀x,bT E base f (eW o) h=some x→∃v,x=(.val v,h):=by
  intro x hx;simp only[bT,eW]at hx;have e:(#[Operand.const (.map none)]++o.op.operands).toList=Operand.const (.map none)::o.op.operands.toList:=by simp
  rw[e]at hx;simp only[zR,Option.bind_eq_some_iff]at hx;obtain⟨as,⟨v0,h0,LU,_,h5⟩,hx⟩:=hx;simp only[Option.some.injEq]at h5;subst h5;have:v0= .map none:=by simp only[ev,ae,Option.some.injEq]at h0;exact h0.2.symm
  subst this;simp only[pt,Option.bind_eq_some_iff,mz,Option.some.injEq]at hx;obtain⟨r,⟨d,_,rfl⟩,rfl⟩:=hx;exact⟨_,rfl⟩
 unfold cV at hr;rw[h1,h2,h3]at hr;simp only at hr;split at hr
 ·rename_i v h' he;obtain⟨v2,e⟩:=h4 _ he;cases e;simp only[Option.some.injEq]at hr;subst hr;exact⟨rfl,rfl⟩
 ·rename_i he;obtain⟨v2,e⟩:=h4 _ he;cases e
 ·rename_i he;obtain⟨v2,e⟩:=h4 _ he;cases e
 ·cases hr
theorem F6 {o:Oper} {f:AF} {h:ab} {r:Dh} (hr:dU E base cz rz o f h=some r):∀cs b,o.op≠ .select cs b:=by
 intro cs b hc;unfold dU at hr;simp only[aB,ba,aP,bT,hc,sG]at hr;cases hr
theorem BK {f f':AF} {o:Oper} (h:uj o f f') (k:ab):dU E base cz rz o f k=dU E base cz rz o f' k:=by
 unfold dU;rw[uk h,um h,r9 h,wZ h];have:sG E f o k=sG E f' o k:=by
  unfold sG;split
  ·rename_i x hx;rw[bt (x:=x) fun t e=>h t (by simp[hx,Op.operands,e])]
  ·rfl
 rw[this]
theorem Dl {ops:List Oper} {X j:Nat} {o:Oper} (ho:ops[j]? =some o) (hb:((a6 ops []).getD j 0).testBit X=true):∃e∈o.after.toList,Region.binds .any e=true∧(e.on=X∨((a6 ops []).getD e.on 0).testBit X=true):=by
 obtain⟨e,h1,h2,h3⟩:=mM ho hb;exact⟨e,h1,h2,h3.imp (fun h=>h.symm) (fun h=>h.2)⟩
def N3 (E:Env) (base B:Nat) (μ:aS) (h:ab) (w:World) (ds:List Deferred) (v:Value) (h':ab) (chain:List PanicEntry) (a':Act) (w':World):Prop:=
 ∃az v',chain=[{v:=v',recovered:=false}]∧ak az v v'∧a'.defers=ds∧Step E base B μ h w az h' w'
theorem Jh (hE:aU P E) (vO:fB P E base B cz) (x4:gu P E base B rz) (j6:fu E cz) (j7:eY rz) {F:Fence} (hF:c4 F) {n:Nat} {ops da:Array Oper} {X:Nat} {o:Oper} {v:Value} {h2:ab}
 {fs:Nat→AF} {hs:Nat→ab} {vs:Nat→Value} {lg:Nat→cg} {eo:aS} {w0:World} {a0:Act}
 (he:da.toList=gy (a6 ops.toList []) X 0 ops.toList) (X1:gP ops.toList) (X2:gP da.toList) (T:Trace E base cz.cf rz.rf da.toList da.toList fs hs vs lg) (K:Aj da.toList hs lg) (fh:dM (fs 0).n da.toList=true)
 (H0:aM E base B eo (hs 0) w0) (ho:ops[X]? =some o) (hw:wanted ops.toList o (fs X)=true) (bH:dU E base cz rz o (fs X) (hs X)=some (.gC v h2)):
 ∀(fuel:Nat) (listed:Array Bool) (a:Act) (w:World),listed.size=ops.size→listed.toList.count false≤fuel→lE da.toList (l8 listed)→l8 listed X=false→(∀j,((a6 ops.toList []).getD j 0).testBit X=true→l8 listed j=false)→
  Inv E base B da.toList fs hs vs lg eo w0 a0 (l8 listed) a w→wpAnyIn F n P .any ops (lU (N3 E base B eo (hs 0) w0 a0.defers v h2)) fuel listed a w:=by
 have hd:∀k:Nat,(da.toList[k]?).bind (·.dst)=(ops.toList[k]?).bind (·.dst):=fun k=>by rw[he];exact sJ _ _ _ _
 have Xu:X<ops.size:=(Array.getElem?_eq_some_iff.1 ho).1;have Xv:ops.toList[X]? =some o:=by simpa using ho
 have Um:da.toList[X]? =some (eW o):=by
  rw[he,iH,Xv];simp
 have hlen:da.toList.length=ops.size:=by rw[he,sI];simp
 have Uo:∀tmps,yielded da tmps=yielded ops tmps:=fun tmps=>by
  funext j
  unfold yielded;have:=hd j;simp only[Array.getElem?_toList]at this;rw[this]
 have notNil:∀(listed:Array Bool),listed.size=ops.size→l8 listed X=false→Region.ready .any ops listed=[]→False:=by
  intro listed cI hx lG;have:=nF X1 cI lG X Xu;rw[hx]at this;cases this
 intro fuel
 induction fuel with
 |zero=>
  intro listed a w cI G8 hC hx Up I;exfalso;have hm:false∈listed.toList:=by
   have bO:X<listed.size:=by omega
   unfold l8 at hx;simp only[Array.getD,bO,dif_pos]at hx;rw[←hx];exact List.mem_of_getElem? (by rw[Array.getElem?_toList];exact Array.getElem?_eq_getElem bO)
  have:=List.count_pos_iff.2 hm;omega
 |succ fuel ih=>
  intro listed a w cI G8 hC hx Up I;refine⟨fun lG=>(notNil listed cI hx lG).elim,fun i hi=>?_⟩;obtain⟨p,h1,yh,h3,h4⟩:=mem_ready hi cI;refine wpOpIn_step h1 fun K' PJ=>?_;by_cases ei:i=X
  ·-- it panics
   subst ei;rw[ho]at h1;cases h1;obtain⟨c,μ,C,S⟩:=I.ex;have hB:B≤w0.heap.size:=H0.low;have te:base≤(hs 0).size:=H0.jx;have Vx:i<da.toList.length:=by omega
   have qC:pO da.toList (l8 listed) (eW o):=h4;have Tb:wanted da.toList (eW o) (fs i)=true:=by
    rw[lY hd];exact hw
   have E6:looks da.toList (eW o)=looks ops.toList o:=Dj hd o;rcases T.run i _ Um with⟨_,Rc⟩|⟨zU,_⟩;rotate_left
   ·rw[Tb]at zU;cases zU
   obtain⟨e1,e2⟩:=Dk Rc;simp only at e1 e2;have G6:lg i= .ck (hs i) (hs i):=e2;have zE:c≤i:=by
    have:=C.ux i _ _ Vx G6;rw[hx]at this;rcases Nat.lt_or_ge i c with h|h
    ·exact absurd (this.2 h) (by simp)
    ·exact h
   have uA:∀j,c≤j→j<i→∀h h',lg j≠ .ck h h':=by
    intro j h5 h6 g g' e;have hL:=C.ux j _ _ om e;have hp:=K.pass j i h6 Vx;rw[e,G6]at hp;simp only[aN]at hp;have:=hL.1 (dD X2 hC h6 Um qC (.inl hp));omega
   have Ck:=C.G4 K hB te (i - c) om (fun j h5 h6=>uA j h5 om);rw[show c+(i - c)=i by omega]at Ck;have Xw:=K.mono (i:=0) (j:=i) (Nat.zero_le _) om
   have hf:bw (cut μ (max (hs i).size (hs c).size)) ((fs i).only (looks ops.toList o)) (sa a (looks ops.toList o)).tmps:=
    ur (by rw[S.size,T.EL i om]) fun t ht=>S.look X2 T K fh C.Cs H0.dZ hC Um hx qC (by rw[E6];exact ht)
   have Er:max (hs i).size (hs c).size=(hs i).size:=Nat.max_eq_left (K.mono zE om);rw[Er]at hf;have iy:Region.wanted o (yielded ops a.tmps)=true:=by
    rw[←lD,gO hf o,mK];exact hw
   rw[if_pos iy];have Am:dU E base cz rz o ((fs i).only (looks ops.toList o)) (hs i)=some (.gC v h2):=by rw[BK (w7 _ _ _)];exact bH
   refine xZ hE vO x4 j6 j7 hF hf Ck.rel Am (w8 (F6 Am)) fun b6 v' w1 q1 q2=>?_;have hle:eo.le (cut μ (hs i).size):=yE Ck.Cs fun b m hb=>by have:=H0.dZ b m hb;omega
   have St:Step E base B eo (hs 0) w0 (cut μ (hs i).size) (hs i) w:=
    ⟨Ck.rel,Ck.grow,hle,fun b m h0 h1=>Ck.new b m h0 (bI.1 h1).2,Ck.zC,Xw⟩
   exact⟨b6,v',rfl,q1,S.OO,St.trans q2⟩
  ·cases Ji:((a6 ops.toList []).getD i 0).testBit X with
   |true=>
    exfalso;obtain⟨e,k1,k2,k3⟩:=Dl (by simpa using h1) Ji;have hl:=h4 e k1 k2;rcases k3 with k3|k3
    ·rw[k3,hx]at hl;cases hl
    ·rw[Up _ k3]at hl;cases hl
   |false=>
    have rG:da.toList[i]? =some p:=by
     rw[he,iH];have:ops.toList[i]? =some p:=by simpa using h1
     rw[this];have aX:Nat.beq (0+i) X=false:=by
      cases hb:Nat.beq (0+i) X with
      |false=>rfl
      |true=>exact absurd (by have:=beq_iff.1 hb;omega) ei
     rw[Nat.zero_add]at aX;simp only[Option.map_some,Nat.zero_add,aX,cond_false,Ji]
    have Iz:da[i]? =some p:=by simpa using rG
    have:=yH (n:=n) (next:=K') (Q:=lU (N3 E base B eo (hs 0) w0 a0.defers v h2)) hE vO.cf x4.rf j6.cf j7.rf hF X2 T K fh H0 I hC Iz h3 h4 fun a' w' I'=>PJ _ _ (ih _ _ _ ?_ ?_ ?_ ?_ ?_ ?_)
    ·rw[Uo]at this;exact this
    ·rw[Array.size_setIfInBounds];exact cI
    ·rw[Array.toList_setIfInBounds,List.count_set (by simpa using yh)];have b7:listed.toList[i]'(by simpa using yh)=false:=by
      unfold l8 at h3;simp only[Array.getD,yh,dif_pos]at h3;simpa using h3
     have jT:false∈listed.toList:=by rw[←b7];exact List.getElem_mem _
     have pH:=List.count_pos_iff.2 jT;rw[b7];have e1:(if(true==false)=true then 1 else 0)=0:=rfl;have e2:(if(false==false)=true then 1 else 0)=1:=rfl;omega
    ·rw[j8 yh];exact oS hC rG h4
    ·rw[j8 yh,eJ (fun h=>ei h.symm)];exact hx
    ·intro j hj;rw[j8 yh];by_cases ej:j=i
     ·subst ej;rw[Ji]at hj;cases hj
     ·rw[eJ ej];exact Up j hj
    ·rw[j8 yh];exact I'
theorem Ga (hE:aU P E) (hm:P.follows .mixedOrders=true) (vO:fB P E base B cz) (x4:gu P E base B rz) (j6:fu E cz) (j7:eY rz) {ops:Array Oper} {f:AF} {h:ab} {i:Nat} {f1:AF} {h1:ab} {v:Value} {h2:ab}
 (hr:nv E base cz rz ops.toList ops.toList f h=some (.gC i f1 h1 v h2)) (bA:dY ops.toList=true) {da:List Oper} (he:da=gy (a6 ops.toList []) i 0 ops.toList) (N4:dY da=true) (fh:dM f.n da=true)
 {f':AF} {h':ab} {fD:List cg} (bH:fY E base cz.cf rz.rf da da f h=some (f',h',fD)) (ot:fv (a6 da []) 0 fD=true)
 {μ:aS} {a:Act} {w:World} (hf:bw μ f a.tmps) (H:aM E base B μ h w) {F:Fence} (hF:c4 F) {n id:Nat}:gB F n P (.region id ops true) (N3 E base B μ h w a.defers v h2) a w:=by
 obtain⟨fs,hs,vs,lg,T,e1,e2,e3,e4,e5⟩:=pL bH;have X1:=uv bA;have X2:=uv N4;have K:=Ct T e5 ot;have hd:∀k:Nat,(da[k]?).bind (·.dst)=(ops.toList[k]?).bind (·.dst):=fun k=>by rw[he];exact sJ _ _ _ _
 obtain⟨q1,q2,o,q3,q4,q5⟩:=x5 hd T 0 hr (fun j=>by simp) (fun j hj=>by
  rw[he,iH];cases ho:ops.toList[0+j]? with
  |none=>rfl
  |some p=>
   have aX:Nat.beq (0+(0+j)) i=false:=by
    cases hb:Nat.beq (0+(0+j)) i with
    |false=>rfl
    |true=>have:=beq_iff.1 hb;omega
   have Uq:((a6 ops.toList []).getD (0+(0+j)) 0).testBit i=false:=by
    cases hb:((a6 ops.toList []).getD (0+(0+j)) 0).testBit i with
    |false=>rfl
    |true=>have:=Cm X1 (0+(0+j)) p (by simpa using ho) i hb;omega
   simp only[Option.map_some,aX,Uq,cond_false]) e1 e2
 simp only[Nat.zero_add]at q1 q2 q3;have H0:aM E base B μ (hs 0) {w with drawn:=w.drawn+1}:=by rw[e2];exact H.congr rfl
 have zK:∀j,l8 (Array.replicate ops.size false) j=false:=by
  intro j;unfold l8;by_cases hj:j<ops.size
  ·simp[hj]
  ·simp[hj]
 have Ak:cut μ (hs 0).size=μ:=by
  funext b
  unfold cut;split
  ·rfl
  ·cases hb:μ b with
   |none=>rfl
   |some m=>have:=H0.dZ b m hb;omega
 have I0:Inv E base B da fs hs vs lg μ {w with drawn:=w.drawn+1} a (l8 (Array.replicate ops.size false)) a {w with drawn:=w.drawn+1}:=by
  refine⟨0,μ,⟨Nat.zero_le _,?_,by rw[Ak];exact H0,μ.le_refl,.refl _ _ _,?_,fun _ _ _=>rfl,?_,?_,?_,?_⟩,⟨?_,rfl,?_,?_⟩⟩
  ·intro j h h' _ _;rw[zK];simp
  ·intro b m h0 h1;rw[h0]at h1;cases h1
  ·intro j md hj;omega
  ·intro j md _ _ hl;rw[zK]at hl;cases hl
  ·intro b m hb hm;have:=H0.dZ b m hm;omega
  ·intro b1 b2 m1 m2 kL h1;have:=H0.dZ b1 m1 h1;omega
  ·rw[e1];exact hf.n.symm
  ·intro j o d _ hl;rw[zK]at hl;cases hl
  ·intro d _;rw[e1];exact hf.get d
 have key:=Jh (da:=da.toArray) (n:=n) (a0:=a) hE vO x4 j6 j7 hF (by simpa using he) X1 (by simpa using X2) (by simpa using T) (by simpa using K) (by rw[e1];simpa using fh) H0 (by simpa using q3) (by rw[q1];exact q4) (by rw[q1,q2];exact q5)
  ops.size _ a _ (by simp) (by simp) (fun j o ho hl=>by rw[zK]at hl;cases hl) (zK i) (fun j _=>zK j) (by simpa using I0)
 refine(Jb hm key).mono ?_;rintro chain a' w' ⟨az,v',k1,k2,k3,k4⟩;rw[e2]at k4;exact⟨az,v',k1,k2,k3,(Step.drawn H _).trans k4⟩
end
section
variable {P:Program} {E:Env} {base B:Nat} {μ:aS} {h:ab} {w:World}
theorem Jj (hE:aU P E) (H:aM E base B μ h w) {s d:TypeId} {b o z len cap:Nat} {x':Value} {str:ByteArray} {h':ab} (ha:iN E base h s d (.slice (some ⟨b,o,some z⟩) len cap)=some (.string str,h')) (hx:ak μ (.slice (some ⟨b,o,some z⟩) len cap) x'):
 (convert s d x').run P w= .ok (.string str) w:=by
 unfold iN at ha;simp only[Option.bind_eq_some_iff]at ha;obtain⟨sd,hs,dd,hd,ha⟩:=ha;split at ha
 ·rename_i e Xx heq;cases heq
 ·rename_i e b1 o1 z1 EB JZ heq;simp only[Option.bind_eq_some_iff,ae]at ha;obtain⟨ed,he,_,ha⟩:=ha;split at ha
  ·simp only[Option.some.injEq,Prod.mk.injEq]at ha;cases ha.1
  ·cases ha
 ·rename_i a1 EB JZ heq;cases heq;split at ha
  ·rename_i e;simp only[Option.bind_eq_some_iff,ae]at ha;obtain⟨ed,he,hu,ha⟩:=ha;cases tn hu;have fin:∀(ns:List Int) (ad:Addr) (l' c':Nat),x'= .slice (some ad) l' c'→(loadCells ad l').run P w= .ok (ns.map (Value.int .u8)).toArray w→(convert s d x').run P w= .ok (.string (strOf ns)) w:=by
    intro ns ad l' c' ex Sy;rw[ex,run_convert_bytes_string (P:=P) w s d e (some ad) l' c' (hE.desc s _ hs) (hE.desc e _ he) (hE.desc d _ hd),run_bytesToString w ad l' c' ns Sy,uc]
   rw[bB]at ha;split at ha
   ·rename_i h0;rw[beq_iff]at h0;subst h0;simp only[Option.some.injEq,Prod.mk.injEq,Value.string.injEq]at ha;obtain⟨rfl,rfl⟩:=ha;generalize hq:Value.slice (some ⟨b,o,some z⟩) 0 cap=q at hx;cases hx with
    |slice hb k1 k2 k3 k4=>cases hq;exact fin [] _ _ _ rfl (by simp[loadCells,loadCellsFrom])
    |bU hb=>cases hq;exact fin [] _ _ _ rfl (by simp[loadCells,loadCellsFrom])
    |lit hh=>subst hq;simp[ar]at hh
    |_=>cases hq
   ·simp only[Option.bind_eq_some_iff,Option.some.injEq,Prod.mk.injEq,Value.string.injEq]at ha;obtain⟨l,hl,ns,tX,rfl,rfl⟩:=ha;have el:=ub tX;simp only[dC]at hl;generalize hq:Value.slice (some ⟨b,o,some z⟩) len cap=q at hx;cases hx with
    |slice hb k1 k2 k3 k4=>
     cases hq;obtain⟨l',r1,r2⟩:=H.tY hb hl;have ud:=(H.ah hb hl).1;have e2:l'=ns.map (Value.int .u8):=by
      have:=ao.scalars r1 (by
       rw[el,List.all_eq_true];intro v hv;obtain⟨n,_,rfl⟩:=List.mem_map.1 hv;rfl)
      rw[←el,this]
     refine fin ns _ _ _ rfl ?_;simp only[loadCells];have zG:l'.length=len:=by rw[←r1.length,ud];omega
     rw[run_loadCells len 0 #[] l' zG (fun k v hv=>by rw[eM];have:=r2 k v hv;simpa[World.cell?]using this)];simp[e2]
    |bU hb=>
     cases hq;have:=oj (by simpa using hl);subst this;simp[Gj]at tX;subst tX;exact fin [] _ _ _ rfl (by simp[loadCells,loadCellsFrom])
    |lit hh=>subst hq;simp[ar]at hh
    |_=>cases hq
  ·cases ha
 ·cases ha
theorem ak.cut {s t:Nat} (_:t≤s) {b o z len cap:Nat} {x':Value} (hx:ak (Go.M.cut μ s) (.slice (some ⟨b,o,some z⟩) len cap) x') (hb:b<t):ak (Go.M.cut μ t) (.slice (some ⟨b,o,some z⟩) len cap) x':=by
 generalize hq:Value.slice (some ⟨b,o,some z⟩) len cap=q at hx;cases hx with
 |slice h1 k1 k2 k3 k4=>
  cases hq;exact .slice (bI.2 ⟨hb,(bI.1 h1).2⟩) k1 k2 k3 k4
 |bU h1=>
  cases hq;exact .bU fun hc=>by
   obtain⟨m,hm⟩:=h1 hc;exact⟨m,bI.2 ⟨hb,(bI.1 hm).2⟩⟩
 |lit hh=>subst hq;simp[ar]at hh
 |_=>cases hq
end
def nw (s:ByteArray) (x:Operand) (o:Oper):Oper:={o with op:=.pick (.const (.bool true)) (.const (.string s)) x}
def tM (E:Env) (base N:Nat) (fs:Nat→AF) (hs:Nat→ab) (i:Nat) (o o3:Oper):Prop:=
 o3=o∨∃sT d t s b off z len cap,o.op= .convert sT d (.tmp t)∧o3=nw s (.tmp t) o∧(fs i).get t= .slice (some ⟨b,off,some z⟩) len cap∧b<(hs 0).size∧
  ∀j,j≤N→∃k,iN E base (hs j) sT d ((fs i).get t)=some (.string s,k)
section
variable {P:Program} {E:Env} {base B:Nat} {cf:dn} {rf:cP}
theorem qz {N:Nat} {fs:Nat→AF} {hs:Nat→ab} {i:Nat} {o o3:Oper} (h:tM E base N fs hs i o o3):o3.dst=o.dst∧o3.after=o.after∧o3.guard=o.guard:=by
 rcases h with rfl |⟨_,_,_,_,_,_,_,_,_,_,rfl,_⟩<;>exact⟨rfl,rfl,rfl⟩
theorem Gb (hE:aU P E) (sR:iR P E base B cf) (uf:hZ P E base B rf) (j6:ia E cf) (j7:fm rf) {F:Fence} (hF:c4 F) {n:Nat} {ops cb:Array Oper}
 {fs:Nat→AF} {hs:Nat→ab} {vs:Nat→Value} {lg:Nat→cg} {eo:aS} {w0:World} {a0:Act}
 (hlen:cb.size=ops.size) (hT:∀(i:Nat) (o o3:Oper),ops[i]? =some o→cb[i]? =some o3→tM E base cb.toList.length fs hs i o o3)
 (X1:gP ops.toList) (X:gP cb.toList) (T:Trace E base cf rf cb.toList cb.toList fs hs vs lg) (K:Aj cb.toList hs lg) (fh:dM (fs 0).n cb.toList=true) (H0:aM E base B eo (hs 0) w0)
 {Q:Exit→Act→World→Prop} (hQ:∀L a w,(∀j,j<cb.size→L j=true)→Inv E base B cb.toList fs hs vs lg eo w0 a0 L a w→Q .normal a w):
 ∀(fuel:Nat) (listed:Array Bool) (a:Act) (w:World),listed.size=ops.size→listed.toList.count false≤fuel→lE cb.toList (l8 listed)→Inv E base B cb.toList fs hs vs lg eo w0 a0 (l8 listed) a w→
  wpAnyIn F n P .any ops Q fuel listed a w:=by
 have vA:∀(i:Nat) (o:Oper),ops[i]? =some o→∃o3,cb[i]? =some o3∧tM E base cb.toList.length fs hs i o o3:=by
  intro i o ho;have hi:i<cb.size:=by have:=(Array.getElem?_eq_some_iff.1 ho).1;omega
  exact⟨_,Array.getElem?_eq_getElem hi,hT i o _ ho (Array.getElem?_eq_getElem hi)⟩
 have hd:∀k:Nat,(cb[k]?).bind (·.dst)=(ops[k]?).bind (·.dst):=by
  intro k;cases ho:ops[k]? with
  |none=>
   have:cb[k]? =none:=by
    rw[Array.getElem?_eq_none_iff]at ho ⊢;omega
   rw[this]
  |some o=>
   obtain⟨o3,h3,h4⟩:=vA k o ho;rw[h3];exact(qz h4).1
 have Uo:∀tmps,yielded cb tmps=yielded ops tmps:=fun tmps=>by
  funext j
  unfold yielded;rw[hd j]
 have done:∀(listed:Array Bool) (a:Act) (w:World),listed.size=ops.size→Region.ready .any ops listed=[]→Inv E base B cb.toList fs hs vs lg eo w0 a0 (l8 listed) a w→Q .normal a w:=
  fun listed a w cI lG I=>hQ _ _ _ (fun j hj=>nF X1 cI lG j om) I
 intro fuel
 induction fuel with
 |zero=>
  intro listed a w cI G8 hC I;have lG:Region.ready .any ops listed=[]:=by
   apply List.eq_nil_iff_forall_not_mem.2;intro i hi;obtain⟨o,_,h2,h3,_⟩:=mem_ready hi cI;have jT:false∈listed.toList:=by
    unfold l8 at h3;simp only[Array.getD,h2,dif_pos]at h3;rw[←h3];exact List.mem_of_getElem? (by rw[Array.getElem?_toList];exact Array.getElem?_eq_getElem h2)
   have:=List.count_pos_iff.2 jT;omega
  exact⟨lG,done _ _ _ cI lG I⟩
 |succ fuel ih=>
  intro listed a w cI G8 hC I;refine⟨fun lG=>done _ _ _ cI lG I,fun i hi=>?_⟩;obtain⟨o,h1,h2,h3,h4⟩:=mem_ready hi cI;obtain⟨o3,g1,g2⟩:=vA i o h1;have N5:cb.toList[i]? =some o3:=by simpa using g1
  have R2:pO cb.toList (l8 listed) o3:=by
   intro e he hb;rw[(qz g2).2.1]at he;exact h4 e he hb
  refine wpOpIn_step h1 fun K' PJ=>?_;have next:∀a' w',Inv E base B cb.toList fs hs vs lg eo w0 a0 (mN (l8 listed) i) a' w'→K' a' w':=fun a' w' I'=>PJ _ _ (ih _ _ _ (by rw[Array.size_setIfInBounds];exact cI) (by
   rw[Array.toList_setIfInBounds,List.count_set (by simpa using h2)];have b7:listed.toList[i]'(by simpa using h2)=false:=by
    unfold l8 at h3;simp only[Array.getD,h2,dif_pos]at h3;simpa using h3
   have jT:false∈listed.toList:=by rw[←b7];exact List.getElem_mem _
   have pH:=List.count_pos_iff.2 jT;rw[b7];have e1:(if(true==false)=true then 1 else 0)=0:=rfl;have e2:(if(false==false)=true then 1 else 0)=1:=rfl;omega) (by rw[j8 h2];exact oS hC N5 R2) (by rw[j8 h2];exact I'))
  rcases g2 with rfl |⟨sT,d,t,s,b,off,z,len,cap,e7,rfl,hv,BW,An⟩
  ·have:=yH (n:=n) (next:=K') (Q:=Q) hE sR uf j6 j7 hF X T K fh H0 I hC g1 h3 R2 next
   rw[Uo]at this;exact this
  ·obtain⟨c,μ,C,S⟩:=I.ex;have G5:i<cb.toList.length:=(List.getElem?_eq_some_iff.1 N5).1;have E6:looks cb.toList (nw s (.tmp t) o)=looks ops.toList o:=by
    unfold looks nw
    congr 1
    ·simp[e7,Op.operands]
    ·simp only
     split
     ·have:=hd ‹_›;simp only[Array.getElem?_toList];rw[this]
     ·rfl
   have hf:bw (cut μ (max (hs i).size (hs c).size)) ((fs i).only (looks ops.toList o)) (sa a (looks ops.toList o)).tmps:=
    ur (by rw[S.size,T.EL i om]) fun u hu=>S.look X T K fh C.Cs H0.dZ hC N5 h3 R2 (by rw[E6];exact hu)
   have iy:Region.wanted o (yielded ops a.tmps)=wanted cb.toList (nw s (.tmp t) o) (fs i):=by
    rw[←lD,gO hf o,mK];unfold wanted nw;simp only
    split
    ·rfl
    ·have:=hd ‹_›;simp only[Array.getElem?_toList];rw[this]
   have skip:vs i=undef→lg i= .pure→Inv E base B cb.toList fs hs vs lg eo w0 a0 (mN (l8 listed) i) (a.put o.dst undef) w:=by
    intro q1 q2;refine⟨c,μ,C.pQ (fun h h' e=>by rw[q2]at e;cases e) (fun h h' e=>by rw[q2]at e;cases e),?_⟩;have:=S.put X fh N5 h3 (v':=undef) (by rw[q1];exact .undef _);exact this
   rcases T.run i _ N5 with⟨hw,bH⟩|⟨hw,q1,_,q3⟩
   ·rw[iy,if_pos hw];have hp:aB E (fs i) (nw s (.tmp t) o)=some (.string s):=by
     simp[aB,nw,ev,dz,ar,aW,sN]
    unfold cV at bH;rw[hp]at bH;simp only[Option.some.injEq,GB.mk.injEq]at bH;obtain⟨q1,q2,q3⟩:=bH;have hx:ak (cut μ (max (hs i).size (hs c).size)) ((fs i).get t) (a.tmps.getD t undef):=S.look X T K fh C.Cs H0.dZ hC N5 h3 R2 (by
     rw[E6];unfold looks;rw[e7];simp[Op.operands])
    have Ym:(hs 0).size≤(hs c).size:=K.mono (Nat.zero_le _) C.cN;rw[hv]at hx;have ir:=hx.cut (t:=(hs c).size) om om;obtain⟨k,hk⟩:=An c C.cN;rw[hv]at hk;have Rd:=Jj (P:=P) hE C.rel hk ir;refine⟨fun _ _=>hF.fn _,?_⟩;rw[Oper.semAt_eq _ _ _ (by rw[e7];intro c hc;cases hc)];have he:(execOp a.eval o).run P w= .ok (.value (.string s)) w:=by
     unfold execOp;rw[e7];have:a.eval (.tmp t)=a.tmps.getD t undef:=rfl;simp only[Sem.run_bind,this,Rd,Result.andThen_ok];rfl
    rw[he];refine next _ _ ⟨c,μ,C.pQ (fun h h' e=>by rw[←q3]at e;cases e) (fun h h' e=>by rw[←q3]at e;cases e),?_⟩
    have:=S.put X fh N5 h3 (v':=.string s) (by rw[←q1];exact .string _ _);exact this
   ·rw[iy,if_neg (by rw[hw];simp)];exact⟨fun _ _=>hF.fn _,next _ _ (skip q1 q3)⟩
end
def vP (E:Env) (base:Nat) (f:AF) (o:Oper) (k:ab):Option ByteArray:=match o.op with
 | .convert sT d (.tmp t)=>(match f.get t with
  | .slice (some ⟨b,off,some z⟩) len cap=>(match iN E base k sT d (.slice (some ⟨b,off,some z⟩) len cap)with
   |some (.string s,_)=>some s
   |_=>none)
  |_=>none)
 |_=>none
def sK (E:Env) (base:Nat) (f:AF) (h:ab) (o:Oper):Oper:=match vP E base f o h with
 |some s=>(match o.op with| .convert _ _ x=>nw s x o|_=>o)
 |none=>o
def kh:List cg→List ab
 |[]=>[]
 | .ck _ h'::l=>h'::kh l
 | .alloc _ h'::l=>h'::kh l
 |_::l=>kh l
def N6 (n:Nat):Value→Bool
 | .slice (some ⟨b,_,some _⟩) _ _=>Nat.blt b n
 |_=>false
def Jk (E:Env) (base:Nat) (f:AF) (o:Oper) (s:ByteArray) (k:ab):Bool:=match vP E base f o k with
 |some s'=>fZ (.string s') (.string s)
 |none=>false
def vQ (E:Env) (base:Nat) (f' f3:AF) (h:ab) (ks:List ab):List Oper→Bool
 |[]=>true
 |o::rest=>(match vP E base f' o h with
  |none=>true
  |some s=>(match o.op with
   | .convert _ _ (.tmp t)=>N6 h.size (f3.get t)&&(o::rest).all (fun p=>p.dst != some t)&&(h::ks).all (Jk E base f3 o s)
   |_=>false))&&vQ E base f' f3 h ks rest
noncomputable def pf (E:Env) (base:Nat) (cf:dn) (rf:cP) (ops:List Oper) (f:AF) (h:ab) (f':AF):Option (AF×ab):=
 let cb:=ops.map (sK E base f' h)
 aW (dY cb&&dM f.n cb)<|(fY E base cf rf cb cb f h).bind fun q=>aW (fv (a6 cb []) 0 q.2.2&&vQ E base f' q.1 h (kh q.2.2) ops) (some (q.1,q.2.1))
section
variable {P:Program} {E:Env} {base B:Nat} {cf:dn} {rf:cP}
theorem ny:∀{fD:List cg} {j:Nat} {h':ab},(∃h,fD[j]? =some (.ck h h'))∨(∃h,fD[j]? =some (.alloc h h'))→h'∈kh fD
 |[],j,h',hh=>by simp at hh
 |x::l,0,h',hh=>by
  rcases hh with⟨h,hh⟩|⟨h,hh⟩<;>simp at hh<;>subst hh<;>simp[kh]
 |x::l,j+1,h',hh=>by
  have:=ny (fD:=l) (j:=j) (h':=h') (by simpa using hh);cases x<;>simp[kh,this]
theorem Gc {ops:List Oper} {fs:Nat→AF} {hs:Nat→ab} {vs:Nat→Value} {lg:Nat→cg} (T:Trace E base cf rf ops ops fs hs vs lg) {fD:List cg} (hl:∀j,j<ops.length→fD[j]? =some (lg j)):
 ∀j,j≤ops.length→hs j∈hs 0::kh fD:=by
 intro j
 induction j with
 |zero=>intro _;exact List.mem_cons_self
 |succ j ih=>
  intro hj;have h0:=ih om;have Vy:=hl j om;rcases T.run j _ (List.getElem?_eq_getElem om)with⟨_,hr⟩|⟨_,_,e,_⟩
  ·rcases mL hr with⟨_,e,_⟩|⟨_,_,_,e,_⟩|⟨md,hd,_,_,e,el⟩|el
   ·simp only at e;rw[e];exact h0
   ·simp only at e;rw[e];exact h0
   ·simp only at el;exact List.mem_cons_of_mem _ (ny (.inr ⟨hs j,by rw[Vy,el]⟩))
   ·simp only at el;exact List.mem_cons_of_mem _ (ny (.inl ⟨hs j,by rw[Vy,el]⟩))
  ·rw[e];exact h0
theorem K5 {ops:List Oper} {fs:Nat→AF} {hs:Nat→ab} {vs:Nat→Value} {lg:Nat→cg} (T:Trace E base cf rf ops ops fs hs vs lg) {i:Nat} {t:Tmp} (zH:∀(j:Nat) (o:Oper),i≤j→ops[j]? =some o→o.dst≠some t):
 ∀k,i+k≤ops.length→(fs (i+k)).get t=(fs i).get t:=by
 intro k
 induction k with
 |zero=>intro _;rfl
 |succ k ih=>
  intro hk;have h0:=List.getElem?_eq_getElem (l:=ops) (i:=i+k) om;rw[show i+(k+1)=i+k+1 by omega,T.put (i+k) _ h0,AF.br,if_neg (fun h=>zH (i+k) _ om h0 h.1)];exact ih om
theorem vR {f' f3:AF} {h:ab} {ks:List ab}:∀{l:List Oper},vQ E base f' f3 h ks l=true→∀(i:Nat) (o:Oper),l[i]? =some o→∀s,vP E base f' o h=some s→
 ∃sT d t,o.op= .convert sT d (.tmp t)∧N6 h.size (f3.get t)=true∧(∀(j:Nat) (p:Oper),i≤j→l[j]? =some p→p.dst≠some t)∧∀k∈h::ks,Jk E base f3 o s k=true
 |[],_,i,o,ho,_,_=>by simp at ho
 |p::l,hk,0,o,ho,s,hs=>by
  simp only[List.getElem?_cons_zero,Option.some.injEq]at ho;subst ho;simp only[vQ,hs,Bool.and_eq_true]at hk;obtain⟨hk,_⟩:=hk;split at hk
  ·rename_i sT d t e7;simp only[Bool.and_eq_true]at hk;obtain⟨⟨h1,h2⟩,h3⟩:=hk;refine⟨sT,d,t,e7,h1,fun j q _ hq hd=>?_,fun k l6=>List.all_eq_true.1 h3 k l6⟩;have:=List.all_eq_true.1 h2 q (List.mem_of_getElem? hq);rw[hd]at this;simp at this
  ·cases hk
 |p::l,hk,i+1,o,ho,s,hs=>by
  simp only[vQ,Bool.and_eq_true]at hk;obtain⟨sT,d,t,h1,h2,h3,h4⟩:=vR hk.2 i o (by simpa using ho) s hs;refine⟨sT,d,t,h1,h2,fun j q hj hq=>?_,h4⟩;cases j with
  |zero=>omega
  |succ j=>exact h3 j q om (by simpa using hq)
theorem Jl (hE:aU P E) (hm:P.follows .mixedOrders=true) (sR:iR P E base B cf) (uf:hZ P E base B rf) (j6:ia E cf) (j7:fm rf) {ops:Array Oper} {f:AF} {h:ab} {f' f3:AF} {h3:ab}
 (hr:pf E base cf rf ops.toList f h f'=some (f3,h3)) (bA:dY ops.toList=true) {μ:aS} {a:Act} {w:World} (hf:bw μ f a.tmps) (H:aM E base B μ h w) {F:Fence} (hF:c4 F) {n id:Nat} {Q:Exit→Act→World→Prop}
 (hQ:∀az a' w',bw az f3 a'.tmps→a'.defers=a.defers→Step E base B μ h w az h3 w'→Q .normal a' w'):(Code.region id ops true).wpIn F n P Q a w:=by
 unfold pf at hr;generalize Vz:ops.toList.map (sK E base f' h)=cb at hr;simp only[ae,Bool.and_eq_true,Option.bind_eq_some_iff,Option.some.injEq,Prod.mk.injEq]at hr;obtain⟨⟨Ur,fh⟩,⟨f1,h1,fD⟩,bH,⟨ot,BZ⟩,e1,e2⟩:=hr;simp only at e1 e2 ot BZ;subst e1 e2;obtain⟨fs,hs,vs,lg,T,e1,e2,e3,e4,e5⟩:=pL bH;have X1:=uv bA;have X:=uv Ur;have K:=Ct T e5 ot;have hlen:cb.length=ops.size:=by rw[←Vz];simp
 have N7:∀o,(sK E base f' h o).dst=o.dst:=by
  intro o;unfold sK;split
  ·split<;>rfl
  ·rfl
 have vA:∀(i:Nat) (o:Oper),ops.toList[i]? =some o→cb[i]? =some (sK E base f' h o):=by
  intro i o ho;rw[←Vz,List.getElem?_map,ho];rfl
 have hT:∀(i:Nat) (o o3:Oper),ops[i]? =some o→cb.toArray[i]? =some o3→tM E base cb.toArray.toList.length fs hs i o o3:=by
  intro i o o3 VA Us;have Re:ops.toList[i]? =some o:=by simpa using VA
  have hi:i<cb.length:=by
   have:=(Array.getElem?_eq_some_iff.1 VA).1;omega
  have e:sK E base f' h o=o3:=by
   have:=vA i o Re;have h9:cb[i]? =some o3:=by simpa using Us
   rw[this]at h9;exact Option.some.inj h9
  cases hc:vP E base f' o h with
  |none=>exact .inl (by rw[←e];unfold sK;rw[hc])
  |some s=>
   obtain⟨sT,d,t,k1,k2,k3,k4⟩:=vR BZ i o Re s hc;have uz:(fs i).get t=f1.get t:=by
    have:=K5 T (i:=i) (t:=t) (fun j p hj hp=>by
     obtain⟨p0,VB⟩:∃p0,ops.toList[j]? =some p0:=⟨_,List.getElem?_eq_getElem (by have:=(List.getElem?_eq_some_iff.1 hp).1;simp;omega)⟩;have h9:=vA j p0 VB;rw[hp]at h9;cases h9;rw[N7];exact k3 j _ hj VB) (cb.length - i) om
    rw[show i+(cb.length - i)=cb.length by omega,e3]at this;exact this.symm
   have Lr:∃b off z len cap,f1.get t= .slice (some ⟨b,off,some z⟩) len cap∧b<h.size:=by
    generalize f1.get t=q at k2;unfold N6 at k2;split at k2
    ·exact⟨_,_,_,_,_,rfl,by simpa using k2⟩
    ·cases k2
   obtain⟨b,off,z,len,cap,q1,q2⟩:=Lr;refine .inr ⟨sT,d,t,s,b,off,z,len,cap,k1,by rw[←e];unfold sK;rw[hc,k1],by rw[uz,q1],by rw[e2];exact q2,fun j hj=>?_⟩;have jT:=Gc T e5 j (by simpa using hj);rw[e2]at jT;have:=k4 _ jT;unfold Jk vP at this;rw[k1]at this;simp only[q1]at this;rw[uz,q1];generalize hx:iN E base (hs j) sT d (.slice (some ⟨b,off,some z⟩) len cap)=x at this;cases x with
   |none=>simp at this
   |some x=>
    obtain⟨v,k⟩:=x;cases v<;>simp only at this<;>first|cases this|skip
    have:=yF this;exact⟨k,by rw[this]⟩
 refine wpIn_region_any hm ?_;have H0:aM E base B μ (hs 0) {w with drawn:=w.drawn+1}:=by rw[e2];exact H.congr rfl
 have zK:∀j,l8 (Array.replicate ops.size false) j=false:=by
  intro j;unfold l8;by_cases hj:j<ops.size
  ·simp[hj]
  ·simp[hj]
 have Ak:cut μ (hs 0).size=μ:=by
  funext b
  unfold cut;split
  ·rfl
  ·cases hb:μ b with
   |none=>rfl
   |some m=>have:=H0.dZ b m hb;omega
 have I0:Inv E base B cb fs hs vs lg μ {w with drawn:=w.drawn+1} a (l8 (Array.replicate ops.size false)) a {w with drawn:=w.drawn+1}:=by
  refine⟨0,μ,⟨Nat.zero_le _,?_,by rw[Ak];exact H0,μ.le_refl,.refl _ _ _,?_,fun _ _ _=>rfl,?_,?_,?_,?_⟩,⟨?_,rfl,?_,?_⟩⟩
  ·intro j h h' _ _;rw[zK];simp
  ·intro b m h0 h1;rw[h0]at h1;cases h1
  ·intro j md hj;omega
  ·intro j md _ _ hl;rw[zK]at hl;cases hl
  ·intro b m hb hm;have:=H0.dZ b m hm;omega
  ·intro b1 b2 m1 m2 kL h1;have:=H0.dZ b1 m1 h1;omega
  ·rw[e1];exact hf.n.symm
  ·intro j o d _ hl;rw[zK]at hl;cases hl
  ·intro d _;rw[e1];exact hf.get d
 refine Gb (cb:=cb.toArray) (fs:=fs) (hs:=hs) (vs:=vs) (lg:=lg) (a0:=a) hE sR uf j6 j7 hF (by simp[hlen]) hT X1 (by simpa using X) (by simpa using T) (by simpa using K) (by rw[e1];simpa using fh) H0 ?_ ops.size _ a _ (by simp) ?_ ?_ (by simpa using I0)
 ·intro L a' w' iP I;obtain⟨c,az,C,S⟩:=I.ex;simp only[List.size_toArray]at iP;have Cn:=C.G4 (by simpa using K) H0.low H0.jx (cb.length - c) (by have:=C.cN;simp only at*;omega) (fun i h1 h2 g g' hl=>by
   have h3:i<cb.length:=by have:=C.cN;simp only at*;omega
   have:=(C.ux i _ _ (by simpa using h3) hl).1 (iP i h3);omega)
  have UT:c≤cb.length:=by have:=C.cN;simpa using this
  rw[show c+(cb.length - c)=cb.length by omega]at Cn;have hle:μ.le (cut az (hs cb.length).size):=yE Cn.Cs fun b m hb=>by
   have h1:=H0.dZ b m hb;have h2:=K.mono (i:=0) (j:=cb.length) (Nat.zero_le _) (Nat.le_refl _);omega
  have St:Step E base B μ (hs 0) {w with drawn:=w.drawn+1} (cut az (hs cb.length).size) (hs cb.length) w':=
   ⟨Cn.rel,Cn.grow,hle,fun b m h0 h1=>Cn.new b m h0 (bI.1 h1).2,Cn.zC,K.mono (Nat.zero_le _) (Nat.le_refl _)⟩
  rw[e2,e4]at St;refine hQ _ a' w' ?_ S.OO ((Step.drawn H _).trans St);rw[←e3];refine⟨by rw[T.EL _ (Nat.le_refl _),S.size],fun t=>?_⟩;by_cases hex:∃(j:Nat) (o:Oper),cb[j]? =some o∧o.dst=some t
  ·obtain⟨j,o,ho,hd⟩:=hex;have hj:j<cb.length:=(List.getElem?_eq_some_iff.1 ho).1;have PF:t<(fs 0).n:=by
    rw[e1];unfold dM at fh;have:=List.all_eq_true.1 fh o (List.mem_of_getElem? ho);rw[hd]at this;simpa using this
   rw[T.Cq X PF ho hd _ (Nat.le_refl _) hj];refine(S.w j o t (by simpa using ho) (iP j hj) hd).mono ?_;rw[←e4];exact eP az.le_refl (by
    have h1:=K.mono (i:=j+1) (j:=cb.length) om (Nat.le_refl _);have h2:=K.mono (i:=c) (j:=cb.length) UT (Nat.le_refl _);omega)
  ·rw[T.Cp t _ (Nat.le_refl _) fun j o _ ho hd=>hex ⟨j,o,ho,hd⟩,←e4];exact(S.old t fun j o ho _ hd=>hex ⟨j,o,by simpa using ho,hd⟩).mono hle
 ·simp
 ·intro j o ho hl;rw[zK]at hl;cases hl
end
noncomputable def x6 (E:Env) (base:Nat) (cz:eB) (rz:c9) (da:List Oper) (f:AF) (h:ab) (v:Value) (h2:ab):Option (Ei×AF×ab):=
 aW (dY da&&dM f.n da)<|(fY E base cz.cf rz.rf da da f h).bind fun q=>aW (fv (a6 da []) 0 q.2.2) (some (.gC v,f,h2))
noncomputable def x7 (E:Env) (base:Nat) (cz:eB) (rz:c9) (ops:List Oper) (f:AF) (h:ab) (f':AF) (h':ab) (fD:List cg):Option (Ei×AF×ab):=
 match ops.any (fun o=>(vP E base f' o h).isSome),pf E base cz.cf rz.rf ops f h f' with
 |true,some q=>some (.go .normal,q.1,q.2)
 |_,_=>aW (dM f.n ops&&fv (a6 ops []) 0 fD) (some (.go .normal,f',h'))
noncomputable def zw (E:Env) (base:Nat) (cz:eB) (rz:c9) (ops:Array Oper) (draw:Bool) (f:AF) (h:ab):Option (Ei×AF×ab):=
 match draw with
 |false=>vN E base cz rz ops.toList ops.toList f h
 |true=>aW (dY ops.toList) (match nv E base cz rz ops.toList ops.toList f h with
  |some (.all f' h' fD)=>x7 E base cz rz ops.toList f h f' h' fD
  |some (.gC i _ _ v h2)=>x6 E base cz rz (gy (a6 ops.toList []) i 0 ops.toList) f h v h2
  |none=>none)
def Rf (E:Env) (fn:Func):Option (Ei×AF×ab)→Option Rs
 |some (.go .normal,f,h')=>(bx E h' f fn.results.toList).bind fun vs=>some (.val (aZ vs) h')
 |some (.go .ret,f,h')=>(bx E h' f fn.results.toList).bind fun vs=>some (.val (aZ vs) h')
 |some (.gC v,_,h')=>some (.gC v h')
 |_=>none
def isRec (o:Oper):Bool:=o.guard.isNone&&(match o.op with
 | .call c=>c.args.isEmpty&&(match c.callee with| .builtin .recover=>true|_=>false)
 |_=>false)
def jt (E:Env) (run:nq) (g:FuncId) (args:List Value) (pv:Value) (h:ab):Option ab:=
 (E.func g).bind fun fn=>match fn.body with
 |some (.seq (.region _ ops false) y)=>(match ops.toList with
  |[o]=>aW (isRec o&&aj y&&fn.results.isEmpty&&Nat.ble args.length fn.ntmps) (match run y ((AF.enter args fn.ntmps).put o.dst pv) h with
   |some (.go .normal,_,h')=>some h'
   |some (.go .ret,_,h')=>some h'
   |_=>none)
  |_=>none)
 |_=>none
def L7 (E:Env) (base:Nat) (run:nq) (cz:eB) (rz:c9) (fn:Func) (g:FuncId) (args:List Value) (ops:Array Oper) (z:Code) (f:AF) (h:ab):Option Rs:=
 match vN E base cz rz ops.toList ops.toList f h with
 |some (.gC v,f2,h2)=>(jt E run g args v h2).bind fun h3=>(bx E h3 f2 fn.results.toList).bind fun vs=>some (.val (aZ vs) h3)
 |some (.go .normal,f2,h2)=>(match run z f2 h2 with
  |some (.go .ret,f3,h3)=>(jt E run g args .nilIface h3).bind fun h4=>(bx E h4 f3 fn.results.toList).bind fun vs=>some (.val (aZ vs) h4)
  |_=>none)
 |_=>none
def vS (E:Env) (base:Nat) (run:nq) (cz:eB) (rz:c9) (fn:Func):Nat→Code→AF→ab→Option Rs
 |0,.seq (.region _ ops false) (.seq (.region _ da false) z),f,h=>(match ops.toList with
  |[o0,o1]=>(match o1.op with
   | .defer c=>aW (o0.guard.isNone&&o1.guard.isNone&&c.args.isEmpty) (match c.callee with
    | .value g=>(match dU E base cz rz o0 f h with
     |some (.val r)=>(match ev E (f.put o0.dst r.v) g with
      |some (.func (.func gid) first captured)=>L7 E base run cz rz fn gid (first.toList++captured.toList) da z ((f.put o0.dst r.v).put o1.dst undef) r.h
      |_=>none)
     |_=>none)
    |_=>none)
   |_=>none)
  |_=>none)
 |k+1,.seq x y,f,h=>aW (aj x) (match run x f h with
  |some (.go .normal,f1,h1)=>vS E base run cz rz fn k y f1 h1
  |_=>none)
 |_,_,_,_=>none
def nZ (base:Nat) (run:nq):c9:=fun l args h=>
 aW (Nat.ble base l)<|
 match h.get l with
 |some (.loop .ready _ f ps c7 body)=>aW (Nat.beq ps.length args.length&&aj c7&&aj body)<|
  (match run c7 (AF.fT (ps.zip args) f) h with
  |some (.go .normal,f1,h1)=>
   (match h1.get l with
   |some (.loop .ready p1 f0 td jc eH)=>
    (match run body f1 (h1.put l (.loop .busy p1 f0 td jc eH))with
    |some (.gC v,_,h2)=>some (.gC v h2)
    |some (.go ex,_,h2)=>(match h2.get l with
     |some (.loop _ _ f0 td jc eH)=>
      (match ex with
      | .normal=>some (.val (.bool true) (h2.put l (.loop .ready none f0 td jc eH)))
      | .ret=>some (.val (.bool false) (h2.put l (.loop .done (some .ret) f0 td jc eH)))
      | .exit id=>some (.val (.bool false) (h2.put l (.loop .done (some (.exit id)) f0 td jc eH))))
     |_=>none)
    |none=>none)
   |_=>none)
  |_=>none)
 |_=>none
def rS (E:Env) (base:Nat) (run:nq):eB:=fun g args h=>
 (E.func g).bind fun fn=>match E.mn base g args h with
 |some r=>some (.val r.1 r.2)
 |none=>fn.body.bind fun c=>aW (Nat.ble args.length fn.ntmps) (Rf E fn (run c (AF.enter args fn.ntmps) h))
def lZ (E:Env) (D:FuncId→Option Nat) (base:Nat) (run:nq):eB:=fun g args h=>
 match D g with
 |none=>rS E base run g args h
 |some k=>(E.func g).bind fun fn=>fn.body.bind fun c=>aW (Nat.ble args.length fn.ntmps) (vS E base run (rS E base run) (nZ base run) fn k c (AF.enter args fn.ntmps) h)
noncomputable def db (E:Env) (D:FuncId→Option Nat) (base:Nat):Nat→nq
 |0,_,_,_=>none
 |n+1,c,f,h=>
  match c with
  | .skip=>some (.go .normal,f,h)
  | .region _ ops draw=>zw E base (lZ E D base (db E D base n)) (nZ base (db E D base n)) ops draw f h
  | .seq a b=>(match db E D base n a f h with
   |some (.go .normal,f',h')=>db E D base n b f' h'
   |r=>r)
  | .cond c t e=>(match(ev E f c).bind sN with
   |some true=>db E D base n t f h
   |some false=>db E D base n e f h
   |none=>none)
  | .block id b=>(match db E D base n b f h with
   |some (.go (.exit jl),f',h')=>bif Nat.beq jl id then some (.go .normal,f',h')else some (.go (.exit jl),f',h')
   |r=>r)
  | .loop b=>(match db E D base n b f h with
   |some (.go .normal,f',h')=>db E D base n (.loop b) f' h'
   |r=>r)
  | .exit id=>some (.go (.exit id),f,h)
  | .ret=>some (.go .ret,f,h)
  | .rangeFunc g ps c7 body=>(match ev E f g with
   |some (.func (.func g) first captured)=>aW (Nat.ble base h.size) (match lZ E D base (db E D base n) g (first.toList++[.func (.yield h.size) #[] #[]]++captured.toList) (h.push (.loop .ready none f ps.toList c7 body))with
    |some (.val _ h1)=>(match h1.get h.size with
     |some (.loop st p f0 zT mB ik)=>aW (st != .busy) (match p with
      |none=>some (.go .normal,f,h1.put h.size (.loop .exhausted p f0 zT mB ik))
      |some c=>(match db E D base n c f (h1.put h.size (.loop .exhausted p f0 zT mB ik))with
       |some (.go e,f',h')=>some (.go e,f',h')
       |_=>none))
     |_=>none)
    |some (.gC v h1)=>some (.gC v,f,h1)
    |none=>none)
   |_=>none)
  |_=>none
noncomputable def L8 (E:Env) (D:FuncId→Option Nat) (base n:Nat):eB:=lZ E D base (db E D base n)
def mh (W0:Nat) (μ:aS) (w:World) (D0 ds:List Deferred):Prop:=∃ms rs,ds=ms++D0∧a8 W0 μ w ms rs
section
variable {P:Program} {E:Env} {base B:Nat} {W0:Nat} {D0 ds:List Deferred} {μ az:aS} {h h':ab} {w w':World}
theorem mh.step (k:mh W0 μ w D0 ds) (s:Step E base B μ h w az h' w'):mh W0 az w' D0 ds:=by
 obtain⟨ms,rs,h1,h2⟩:=k;exact⟨ms,rs,h1,h2.step s⟩
theorem mh.refl:mh W0 μ w D0 D0:=⟨[],[],rfl,.nil⟩
def JR (E:Env) (base B W0:Nat) (D0 Dm:List Deferred) (nr:Bool) (μ:aS) (h:ab) (w:World) (f':AF) (h':ab) (a':Act) (w':World):Prop:=
 ∃az,bw az f' a'.tmps∧mh W0 az w' D0 a'.defers∧(nr=true→a'.defers=Dm)∧Step E base B μ h w az h' w'
def L9 (E:Env) (base B W0:Nat) (D0 Dm:List Deferred) (nr:Bool) (μ:aS) (h:ab) (w:World) (v:Value) (h':ab) (chain:List PanicEntry) (a':Act) (w':World):Prop:=
 ∃az v',chain=[{v:=v',recovered:=false}]∧ak az v v'∧mh W0 az w' D0 a'.defers∧(nr=true→a'.defers=Dm)∧Step E base B μ h w az h' w'
def Ma (P:Program) (E:Env) (base B:Nat) (F:Fence) (n:Nat) (c:Code) (W0:Nat) (D0:List Deferred) (μ:aS) (h:ab) (a:Act) (w:World):Ei→AF→ab→Prop
 | .go e,f',h'=>c.wpIn F n P (fun x a' w'=>x=fC e∧JR E base B W0 D0 a.defers (aj c) μ h w f' h' a' w') a w
 | .gC v,_,h'=>gB F n P c (L9 E base B W0 D0 a.defers (aj c) μ h w v h') a w
def kj (P:Program) (E:Env) (base B:Nat) (run:nq):Prop:=
 ∀(c:Code) (f:AF) (h:ab) (ex:Ei) (f':AF) (h':ab),run c f h=some (ex,f',h')→
  ∀(μ:aS) (a:Act) (w:World) (W0:Nat) (D0:List Deferred),bw μ f a.tmps→aM E base B μ h w→mh W0 μ w D0 a.defers→W0≤w.heap.size→
  ∀(F:Fence) (n:Nat),c4 F→(F.round=none∨aj c=true)→Ma P E base B F n c W0 D0 μ h a w ex f' h'
theorem Gd (hE:aU P E) (hm:P.follows .mixedOrders=true) {cz:eB} {rz:c9} (vO:fB P E base B cz) (x4:gu P E base B rz) (j6:fu E cz) (j7:eY rz) {id:Nat} {ops:Array Oper} {draw:Bool} {f:AF} {h:ab} {ex:Ei} {f':AF} {h':ab}
 (hr:zw E base cz rz ops draw f h=some (ex,f',h')) {a:Act} (hf:bw μ f a.tmps) (H:aM E base B μ h w) (hd:mh W0 μ w D0 a.defers) {F:Fence} {n:Nat} (hF:c4 F):Ma P E base B F n (.region id ops draw) W0 D0 μ h a w ex f' h':=by
 unfold zw at hr;cases draw with
 |false=>
  simp only at hr;cases ex with
  |go e=>
   have he:e= .normal:=by
    have:∀(l:List Oper) (f:AF) (h:ab),vN E base cz rz ops.toList l f h=some (.go e,f',h')→e= .normal:=by
     intro l
     induction l with
     |nil=>intro f h hh;simp only[vN,Option.some.injEq,Prod.mk.injEq,Ei.go.injEq]at hh;exact hh.1.symm
     |cons o l ih=>
      intro f h hh;simp only[vN]at hh;split at hh
      ·split at hh
       ·exact ih _ _ hh
       ·cases hh
       ·cases hh
      ·exact ih _ _ hh
    exact this _ _ _ hr
   subst he;refine wpIn_region ?_;rw[List.range_eq_range',←Array.length_toList];exact nu hE vO x4 j6 j7 hF ops.toList 0 μ f h a w (fun j=>by simp) hr hf H fun _ az a' w' q1 q2 q3=>⟨rfl,az,q1,by rw[q2];exact hd.step q3,fun _=>q2,q3⟩
  |gC v=>
   refine BH ?_;rw[List.range_eq_range',←Array.length_toList];exact nu hE vO x4 j6 j7 hF ops.toList 0 μ f h a w (fun j=>by simp) hr hf H fun az v' a' w' _ q1 q2 q3=>⟨az,v',rfl,q1,by rw[q2];exact hd.step q3,fun _=>q2,q3⟩
 |true=>
  simp only[ae]at hr;obtain⟨bA,hr⟩:=hr;split at hr
  ·rename_i f1 h1 fD bH;unfold x7 at hr;split at hr
   ·rename_i q _ ht;simp only[Option.some.injEq,Prod.mk.injEq]at hr;obtain⟨rfl,rfl,rfl⟩:=hr;obtain⟨q1,q2⟩:=q;exact Jl hE hm vO.cf x4.rf j6.cf j7.rf ht bA hf H hF fun az a' w' p1 p2 p3=>⟨rfl,az,p1,by rw[p2];exact hd.step p3,fun _=>p2,p3⟩
   ·simp only[ae,Bool.and_eq_true,Option.some.injEq,Prod.mk.injEq]at hr;obtain⟨⟨fh,ot⟩,rfl,rfl,rfl⟩:=hr;exact yJ hE hm _ _ vO.cf x4.rf j6.cf j7.rf ops f h f1 h1 fD bA fh (rR bH) ot μ a w hf H F n id _ hF fun az a' w' q1 q2 q3=>⟨rfl,az,q1,by rw[q2];exact hd.step q3,fun _=>q2,q3⟩
  ·rename_i i f1 h1 v h2 bH;unfold x6 at hr;simp only[ae,Bool.and_eq_true,Option.bind_eq_some_iff,Option.some.injEq,Prod.mk.injEq]at hr;obtain⟨⟨N4,fh⟩,q,Rg,ot,rfl,rfl,rfl⟩:=hr;obtain⟨q1,q2,q3⟩:=q;refine(Ga hE hm vO x4 j6 j7 bH bA rfl N4 fh Rg ot hf H hF).mono ?_;rintro chain a' w' ⟨az,v',k1,k2,k3,k4⟩;exact⟨az,v',k1,k2,by rw[k3];exact hd.step k4,fun _=>k3,k4⟩
  ·cases hr
theorem km {F:Fence} {n:Nat} {fn:Func} {tmps:Array Value} {R:Ending→World→Prop} {u:FrameMode} (hu:u≠ .run) {eo μ:aS} {h0 h:ab} {w0:World}:∀(ms:List Deferred) (rs:List Nat) (w:World),a8 w0.heap.size μ w ms rs→Step E base B eo h0 w0 μ h w→
 (∀w',Step E base B eo h0 w0 μ h w'→LeavesInM F n P fn tmps R D0 u w')→LeavesInM F n P fn tmps R (ms++D0) u w
 |[],_,w,_,s,hR=>hR w s
 |d::ds,_,w,.cons (r:=r) (rs:=rs) hk hn ht,s,hR=>by
  refine⟨hu,.inl ⟨r,{w with heap:=w.heap.setIfInBounds r (.deferred none)},hk.tg,?_,?_⟩⟩
  ·unfold Instr.takeDeferred;simp only[Sem.run_bind,run_getObj_map (P:=P) hk.obj (fun _ _ _=>by simp),Result.andThen_ok,bj (P:=P) hk.obj (fun _ _ _=>by simp),Sem.run_pure]
  ·have bO:r<w.heap.size:=(Array.getElem?_eq_some_iff.1 hk.obj).1;have Gk:=wT.set w r (.deferred none) bO;refine km hu ds rs _ ?_ (s.apart Gk hk.apart hk.new) hR;have:∀{ds:List Deferred} {rs:List Nat},a8 w0.heap.size μ w ds rs→r∉rs→a8 w0.heap.size μ {w with heap:=w.heap.setIfInBounds r (.deferred none)} ds rs:=by
    intro ds rs k
    induction k with
    |nil=>intro _;exact .nil
    |cons h1 h2 _ ih=>
     intro Ad;simp only[List.mem_cons,not_or]at Ad;exact .cons ⟨h1.tg,by rw[Gk.get,if_neg (fun e=>Ad.1 e.symm)];exact h1.obj,h1.apart,h1.new⟩ h2 (ih Ad.2)
   exact this ht hn
theorem BL (run:nq):fu E (rS E base run):=by
 intro g args h r hr;unfold rS at hr;simp only[Option.bind_eq_some_iff]at hr;obtain⟨fn,h1,_⟩:=hr;simp[h1]
theorem BM {D:FuncId→Option Nat} (run:nq):fu E (lZ E D base run):=by
 intro g args h r hr;unfold lZ at hr;split at hr
 ·exact BL run g args h r hr
 ·simp only[Option.bind_eq_some_iff]at hr;obtain⟨fn,h1,_⟩:=hr;simp[h1]
theorem x8 (run:nq):eY (nZ base run):=by
 intro l args h r hr;unfold nZ at hr;simp only[ae]at hr;obtain⟨_,hr⟩:=hr;split at hr
 ·rename_i p f ps c7 body hg;simp only[ae,Bool.and_eq_true,beq_iff]at hr;exact⟨_,_,_,_,_,_,hg,hr.1.1.1⟩
 ·cases hr
theorem BN (hE:aU P E) (hO:eZ P E base B) {run:nq} (hk:kj P E base B run):fB P E base B (rS E base run):=by
 intro μ h w g args args' r hc hr H F n hF;unfold rS at hc;simp only[Option.bind_eq_some_iff]at hc;obtain⟨fn,h1,hc⟩:=hc;split at hc
 ·rename_i q ho;simp only[Option.some.injEq]at hc;subst hc;exact hO μ h w g args args' q.1 q.2 ho hr H F n hF
 ·simp only[Option.bind_eq_some_iff,ae,ax]at hc;obtain⟨c,h2,hn,hc⟩:=hc;obtain⟨f1,f2,f3⟩:=hE.func _ _ h1;have go:∀(e:Ex) (fe:AF) (he:ab),run c (AF.enter args fn.ntmps) h=some (.go e,fe,he)→(fC e= .normal∨fC e= .ret)→(bx E he fe fn.results.toList).bind (fun vs=>some (.val (aZ vs) he))=some r→CallsIn F.plain n P g args' w (lW E base B μ h w r):=by
   intro e fe he bH hex kr;simp only[Option.bind_eq_some_iff,Option.some.injEq]at kr;obtain⟨vs,h3,rfl⟩:=kr;have key:=hk c _ h _ fe he bH μ {tmps:=args'++Array.replicate (fn.ntmps - args'.size) undef,defers:=[]} w w.heap.size [] (jm hr hn) H .refl (Nat.le_refl _) F.plain n hF.plain (.inl rfl);refine callsIn_of_wp_marks f1 h2 (hF.fn _) (wpIn_mono key ?_) rfl;rintro x a' w' ⟨rfl,az,q1,⟨ms,rs,fI,Dy⟩,_,q3⟩;have lv:LeavesInM F.plain n P fn a'.tmps (lW E base B μ h w (.val (aZ vs) he)) a'.defers .returning w':=by
    rw[fI];exact km (D0:=[]) (by simp) ms rs w' Dy q3 fun w2 s2=>by
     obtain⟨v',p1,p2⟩:=iw (P:=P) hE q1 s2.rel h3;exact⟨v',p1,v',az,rfl,p2,s2⟩
   rcases hex with e|e<;>rw[e]<;>exact lv
  have fin:CallsIn F.plain n P g args' w (lW E base B μ h w r):=by
   unfold Rf at hc;split at hc
   ·rename_i fe he bH;exact go _ _ _ bH (.inl rfl) hc
   ·rename_i fe he bH;exact go _ _ _ bH (.inr rfl) hc
   ·rename_i v fe he bH;simp only[Option.some.injEq]at hc;subst hc;have key:=hk c _ h _ fe he bH μ {tmps:=args'++Array.replicate (fn.ntmps - args'.size) undef,defers:=[]} w w.heap.size [] (jm hr hn) H .refl (Nat.le_refl _) F.plain n hF.plain (.inl rfl);refine callsIn_of_wp_marks f1 h2 (hF.fn _) (gB.wp key ?_) rfl;rintro chain a' w' ⟨az,v',rfl,q1,⟨ms,rs,fI,Dy⟩,_,q3⟩;show LeavesInM F.plain n P fn a'.tmps _ a'.defers _ w';rw[fI];exact km (D0:=[]) (by simp) ms rs w' Dy q3 fun w2 s2=>⟨v',az,rfl,q1,s2⟩
   ·cases hc
  exact fin
theorem x9 {run:nq} (hk:kj P E base B run):gu P E base B (nZ base run):=by
 intro μ h w l args r m f0 ps c7 body st p fn tmps hr hl hb H hf F n hF;unfold nZ at hr;simp only[ae,ax]at hr;obtain⟨aY,hr⟩:=hr;rw[hl]at hr;cases st with
 |ready=>
  simp only[ae,Bool.and_eq_true,beq_iff]at hr;obtain⟨⟨⟨hlen,yB⟩,k8⟩,hr⟩:=hr;split at hr
  ·rename_i f1 h1 Mv;have Rh:=hk c7 _ h _ f1 h1 Mv μ {tmps:=tmps,defers:=[]} w w.heap.size [] hf H .refl (Nat.le_refl _) (F.inRound m.r) n (hF.inRound _) (.inr yB);split at hr
   ·rename_i p1 Pu td jc eH wu;have Jm:∀b6 w1,Step E base B μ h w b6 h1 w1→∃w2,(Instr.beginRound m.r).run P w1= .ok () w2∧Step E base B b6 h1 w1 b6 (h1.put l (.loop .busy p1 Pu td jc eH)) w2:=by
     intro b6 w1 s1;have kL:=s1.le _ _ hb;obtain⟨Mw,e1,e2,e3,s2⟩:=gg s1.rel kL aY wu .busy p1;refine⟨{w1 with heap:=w1.heap.setIfInBounds m.r (.loop {Mw with state:=.busy})},?_,?_⟩
     ·unfold Instr.beginRound;simp only[Sem.run_bind,run_getLoop (P:=P) e1,Result.andThen_ok,bj (P:=P) e1 (fun _ _ _=>by simp),e2,Sem.run_pure]
     ·rw[←e3]at s2 ⊢;exact s2
    split at hr
    ·rename_i v fe h2 uh;simp only[Option.some.injEq]at hr;subst hr;refine BI (hF.fn _) hF.depth (wpIn_mono Rh ?_);rintro x a1 w1 ⟨rfl,b6,q1,q2,q3,s1⟩;obtain⟨w2,Q9,s2⟩:=Jm b6 w1 s1;refine⟨w2,Q9,?_⟩;have wV:a1.defers=[]:=q3 yB;have N8:=hk body f1 _ _ fe h2 uh b6 a1 w2 w.heap.size [] q1 s2.rel (q2.step s2) (Nat.le_trans s1.grow.size s2.grow.size) (F.inRound m.r) n (hF.inRound _) (.inr k8);refine gB.mono N8 ?_;rintro chain a' w' ⟨az,v',rfl,k1,_,k3,k4⟩;exact⟨(k3 k8).trans wV,v',az,rfl,k1,(s1.trans s2).trans k4⟩
    ·rename_i ex fe h2 uh;split at hr
     ·rename_i UO p2 Pv Pw GX Ag zG;refine roundIn_of_wpIn (hF.fn _) (wpIn_mono Rh ?_);rintro x a1 w1 ⟨rfl,b6,q1,q2,q3,s1⟩;obtain⟨w2,Q9,s2⟩:=Jm b6 w1 s1;refine⟨w2,Q9,?_⟩;have N8:=hk body f1 _ _ fe h2 uh b6 a1 w2 w.heap.size [] q1 s2.rel (q2.step s2) (Nat.le_trans s1.grow.size s2.grow.size) (F.inRound m.r) n (hF.inRound _) (.inr k8);refine wpIn_mono N8 ?_;rintro x a3 w3 ⟨rfl,lB,_,_,_,s3⟩;have gh:=s1.trans s2;have BY:=s3.le _ _ (s1.le _ _ hb)
      have key:∀(wY:LoopState) (jump:Option Code),(jump.isNone=true→wY= .ready)→(jump.isNone=false→wY= .done)→∃w4,(Instr.endRound m.r jump).run P w3= .ok (.bool jump.isNone) w4∧Step E base B lB h2 w3 lB (h2.put l (.loop wY jump Pv Pw GX Ag)) w4:=by
       intro wY jump J2 EG;obtain⟨EH,d1,d2,d3,s4⟩:=gg s3.rel BY aY zG wY jump;refine⟨_,?_,s4⟩;unfold Instr.endRound;simp only[Sem.run_bind,run_getLoop (P:=P) d1,Result.andThen_ok,bj (P:=P) d1 (fun _ _ _=>by simp),Sem.run_pure];cases hj:jump.isNone with
       |true=>rw[J2 hj];simp
       |false=>rw[EG hj];simp
      cases ex with
      |normal=>
       simp only[Option.some.injEq]at hr;subst hr;obtain⟨w4,k1,k2⟩:=key .ready none (fun _=>rfl) (fun h=>by simp at h);exact⟨_,w4,k1,_,lB,rfl,.bool _ _,(gh.trans s3).trans k2⟩
      |ret=>
       simp only[Option.some.injEq]at hr;subst hr;obtain⟨w4,k1,k2⟩:=key .done (some .ret) (fun h=>by simp at h) (fun _=>rfl);exact⟨_,w4,k1,_,lB,rfl,.bool _ _,(gh.trans s3).trans k2⟩
      |exit id=>
       simp only[Option.some.injEq]at hr;subst hr;obtain⟨w4,k1,k2⟩:=key .done (some (.exit id)) (fun h=>by simp at h) (fun _=>rfl);exact⟨_,w4,k1,_,lB,rfl,.bool _ _,(gh.trans s3).trans k2⟩
     ·cases hr
    ·cases hr
   ·cases hr
  ·cases hr
 |busy=>cases hr
 |done=>cases hr
 |exhausted=>cases hr
end
section
variable {P:Program} {E:Env} {base B:Nat} {D:FuncId→Option Nat}
theorem JR.pre {W0:Nat} {D0 Dm Ri:List Deferred} {nr Jn:Bool} {μ b6:aS} {h h1:ab} {w w1:World} {f':AF} {h':ab} {a':Act} {w':World} (k:JR E base B W0 D0 Ri Jn b6 h1 w1 f' h' a' w') (s:Step E base B μ h w b6 h1 w1) (hd:nr=true→Jn=true∧Ri=Dm):JR E base B W0 D0 Dm nr μ h w f' h' a' w':=by
 obtain⟨az,q1,q2,q3,q4⟩:=k;exact⟨az,q1,q2,fun hn=>(q3 (hd hn).1).trans (hd hn).2,s.trans q4⟩
theorem L9.pre {W0:Nat} {D0 Dm Ri:List Deferred} {nr Jn:Bool} {μ b6:aS} {h h1:ab} {w w1:World} {v:Value} {h':ab} {chain:List PanicEntry} {a':Act} {w':World} (k:L9 E base B W0 D0 Ri Jn b6 h1 w1 v h' chain a' w') (s:Step E base B μ h w b6 h1 w1) (hd:nr=true→Jn=true∧Ri=Dm):L9 E base B W0 D0 Dm nr μ h w v h' chain a' w':=by
 obtain⟨az,v',q0,q1,q2,q3,q4⟩:=k;exact⟨az,v',q0,q1,q2,fun hn=>(q3 (hd hn).1).trans (hd hn).2,s.trans q4⟩
theorem JR.post {W0:Nat} {D0 Dm:List Deferred} {nr Jn:Bool} {μ:aS} {h:ab} {w:World} {f':AF} {h':ab} {a':Act} {w':World} (k:JR E base B W0 D0 Dm Jn μ h w f' h' a' w') (hd:nr=true→Jn=true):JR E base B W0 D0 Dm nr μ h w f' h' a' w':=by
 obtain⟨az,q1,q2,q3,q4⟩:=k;exact⟨az,q1,q2,fun hn=>q3 (hd hn),q4⟩
theorem L9.post {W0:Nat} {D0 Dm:List Deferred} {nr Jn:Bool} {μ:aS} {h:ab} {w:World} {v:Value} {h':ab} {chain:List PanicEntry} {a':Act} {w':World} (k:L9 E base B W0 D0 Dm Jn μ h w v h' chain a' w') (hd:nr=true→Jn=true):L9 E base B W0 D0 Dm nr μ h w v h' chain a' w':=by
 obtain⟨az,v',q0,q1,q2,q3,q4⟩:=k;exact⟨az,v',q0,q1,q2,fun hn=>q3 (hd hn),q4⟩
def Jo (P:Program) (E:Env) (base B:Nat) (F:Fence) (n:Nat) (b:Code) (W0:Nat) (D0:List Deferred) (μ:aS) (h:ab) (a:Act) (w:World) (k:Nat):Ei→AF→ab→Prop
 | .go e,f',h'=>Code.roundsIn F n P b (fun x a' w'=>x=fC e∧JR E base B W0 D0 a.defers (aj b) μ h w f' h' a' w') k a w
 | .gC v,_,h'=>ij F n P b (L9 E base B W0 D0 a.defers (aj b) μ h w v h') k a w
theorem ij.mono {F:Fence} {n:Nat} {b:Code} {R R':List PanicEntry→Act→World→Prop} (hq:∀c a w,R c a w→R' c a w):∀(k:Nat) (a:Act) (w:World),ij F n P b R k a w→ij F n P b R' k a w
 |0,_,_,h=>h
 |k+1,a,w,h=>by
  rcases h with h|h
  ·exact .inl (h.mono hq)
  ·refine .inr (wpIn_mono h fun e a w he=>?_);cases e with
   |normal=>exact ij.mono hq k a w he
   |_=>exact he
theorem kH {F:Fence} {n:Nat} {b:Code} {Q Q':Exit→Act→World→Prop} (hq:∀e a w,Q e a w→Q' e a w):∀(k:Nat) (a:Act) (w:World),Code.roundsIn F n P b Q k a w→Code.roundsIn F n P b Q' k a w
 |0,_,_,h=>by simp[Code.roundsIn]at h
 |k+1,a,w,h=>by
  rw[roundsIn_succ]at h ⊢;refine wpIn_mono h fun e a w he=>?_;cases e with
  |normal=>exact kH hq k a w he
  |_=>exact hq _ _ _ he
theorem Jp (hE:aU P E) (hm:P.follows .mixedOrders=true) (iZ:∀run,kj P E base B run→fB P E base B (lZ E D base run)):∀k,kj P E base B (db E D base k)∧
 (∀(b:Code) (f:AF) (h:ab) (ex:Ei) (f':AF) (h':ab),db E D base k (.loop b) f h=some (ex,f',h')→
  ∀(μ:aS) (a:Act) (w:World) (W0:Nat) (D0:List Deferred),bw μ f a.tmps→aM E base B μ h w→mh W0 μ w D0 a.defers→W0≤w.heap.size→
  ∀(F:Fence) (n:Nat),c4 F→(F.round=none∨aj b=true)→Jo P E base B F n b W0 D0 μ h a w k ex f' h'):=by
 intro k
 induction k with
 |zero=>exact⟨fun c f h ex f' h' hr=>by simp[db]at hr,fun b f h ex f' h' hr=>by simp[db]at hr⟩
 |succ k ih=>
  obtain⟨hk,Ah⟩:=ih;have hc:=iZ _ hk;have iI:=x9 hk
  have rZ:∀(b:Code) (f:AF) (h:ab) (ex:Ei) (f':AF) (h':ab),db E D base (k+1) (.loop b) f h=some (ex,f',h')→
   ∀(μ:aS) (a:Act) (w:World) (W0:Nat) (D0:List Deferred),bw μ f a.tmps→aM E base B μ h w→mh W0 μ w D0 a.defers→W0≤w.heap.size→
   ∀(F:Fence) (n:Nat),c4 F→(F.round=none∨aj b=true)→Jo P E base B F n b W0 D0 μ h a w (k+1) ex f' h':=by
   intro b f h ex f' h' hr μ a w W0 D0 hf H hd hW F n hF mJ;simp only[db]at hr;split at hr
   ·rename_i f1 h1 hb;have kb:=hk b f h _ f1 h1 hb μ a w W0 D0 hf H hd hW F n hF mJ;have next:∀a1 w1,JR E base B W0 D0 a.defers (aj b) μ h w f1 h1 a1 w1→∃b6,Step E base B μ h w b6 h1 w1∧(aj b=true→a1.defers=a.defers)∧Jo P E base B F n b W0 D0 b6 h1 a1 w1 k ex f' h':=by
     rintro a1 w1 ⟨b6,q1,q2,q3,s1⟩;exact⟨b6,s1,q3,Ah b f1 h1 ex f' h' hr b6 a1 w1 W0 D0 q1 s1.rel q2 (Nat.le_trans hW s1.grow.size) F n hF mJ⟩
    cases ex with
    |go e=>
     show Code.roundsIn F n P b _ (k+1) a w;rw[roundsIn_succ];refine wpIn_mono kb ?_;rintro x a1 w1 ⟨rfl,hg⟩;obtain⟨b6,s1,q3,hl⟩:=next a1 w1 hg
     exact kH (fun x a' w' hx=>⟨hx.1,hx.2.pre s1 fun hn=>⟨hn,q3 hn⟩⟩) k a1 w1 hl
    |gC v=>
     refine .inr (wpIn_mono kb ?_);rintro x a1 w1 ⟨rfl,hg⟩;obtain⟨b6,s1,q3,hl⟩:=next a1 w1 hg
     exact ij.mono (fun c a' w' hx=>hx.pre s1 fun hn=>⟨hn,q3 hn⟩) k a1 w1 hl
   ·rename_i GY;have kb:=hk b f h ex f' h' hr μ a w W0 D0 hf H hd hW F n hF mJ;cases ex with
    |go e=>
     show Code.roundsIn F n P b _ (k+1) a w;rw[roundsIn_succ];refine wpIn_mono kb ?_;rintro x a1 w1 ⟨rfl,hg⟩;cases e with
     |normal=>exact(GY _ _ hr).elim
     |exit id=>exact⟨rfl,hg⟩
     |ret=>exact⟨rfl,hg⟩
    |gC v=>exact .inl kb
  refine⟨?_,rZ⟩;intro c f h ex f' h' hr μ a w W0 D0 hf H hd hW F n hF mJ;cases c with
  |skip=>
   simp only[db,Option.some.injEq,Prod.mk.injEq]at hr;obtain⟨rfl,rfl,rfl⟩:=hr;exact wpIn_skip ⟨rfl,μ,hf,hd,fun _=>rfl,.refl H⟩
  |exit id=>
   simp only[db,Option.some.injEq,Prod.mk.injEq]at hr;obtain⟨rfl,rfl,rfl⟩:=hr;exact wpIn_exit ⟨rfl,μ,hf,hd,fun _=>rfl,.refl H⟩
  |ret=>
   simp only[db,Option.some.injEq,Prod.mk.injEq]at hr;obtain⟨rfl,rfl,rfl⟩:=hr;exact wpIn_ret ⟨rfl,μ,hf,hd,fun _=>rfl,.refl H⟩
  |seq x y=>
   simp only[db]at hr;have hx:F.round=none∨aj x=true:=mJ.imp id fun h=>by simp[aj]at h;exact h.1
   have hy:F.round=none∨aj y=true:=mJ.imp id fun h=>by simp[aj]at h;exact h.2
   have n1:aj (.seq x y)=true→aj x=true:=fun h=>by simp[aj]at h;exact h.1
   have n2:aj (.seq x y)=true→aj y=true:=fun h=>by simp[aj]at h;exact h.2
   split at hr
   ·rename_i f1 h1 hb;have kx:=hk x f h _ f1 h1 hb μ a w W0 D0 hf H hd hW F n hF hx;cases ex with
    |go e=>
     refine wpIn_seq (wpIn_mono kx ?_);rintro q a1 w1 ⟨rfl,b6,q1,q2,q3,s1⟩;refine wpIn_mono (hk y f1 h1 _ f' h' hr b6 a1 w1 W0 D0 q1 s1.rel q2 (Nat.le_trans hW s1.grow.size) F n hF hy) ?_;rintro q a2 w2 ⟨rfl,hg⟩;exact⟨rfl,hg.pre s1 fun hn=>⟨n2 hn,q3 (n1 hn)⟩⟩
    |gC v=>
     refine Df (wpIn_mono kx ?_);rintro q a1 w1 ⟨rfl,b6,q1,q2,q3,s1⟩;exact gB.mono (hk y f1 h1 _ f' h' hr b6 a1 w1 W0 D0 q1 s1.rel q2 (Nat.le_trans hW s1.grow.size) F n hF hy) fun c a2 w2 hg=>hg.pre s1 fun hn=>⟨n2 hn,q3 (n1 hn)⟩
   ·rename_i GY;have kx:=hk x f h ex f' h' hr μ a w W0 D0 hf H hd hW F n hF hx;cases ex with
    |go e=>
     refine wpIn_seq (wpIn_mono kx ?_);rintro q a1 w1 ⟨rfl,hg⟩;cases e with
     |normal=>exact(GY _ _ hr).elim
     |exit id=>exact⟨rfl,hg.post n1⟩
     |ret=>exact⟨rfl,hg.post n1⟩
    |gC v=>exact FZ (gB.mono kx fun c a1 w1 hg=>hg.post n1)
  |cond cx x y=>
   simp only[db]at hr;have hx:F.round=none∨aj x=true:=mJ.imp id fun h=>by simp[aj]at h;exact h.1
   have hy:F.round=none∨aj y=true:=mJ.imp id fun h=>by simp[aj]at h;exact h.2
   have n1:aj (.cond cx x y)=true→aj x=true:=fun h=>by simp[aj]at h;exact h.1
   have n2:aj (.cond cx x y)=true→aj y=true:=fun h=>by simp[aj]at h;exact h.2
   cases hb:(ev E f cx).bind sN with
   |none=>rw[hb]at hr;cases hr
   |some b=>
    simp only[Option.bind_eq_some_iff]at hb;obtain⟨v,h1,h2⟩:=hb;have hb:(ev E f cx).bind sN=some b:=by simp[h1,h2]
    rw[hb]at hr;have e:=pF h2;subst e;have JB:=(aL H.cd hf h1).an rfl;cases b with
    |true=>
     have kx:=hk x f h ex f' h' hr μ a w W0 D0 hf H hd hW F n hF hx;cases ex with
     |go e=>exact wpIn_cond_true JB (wpIn_mono kx fun q a1 w1 hg=>⟨hg.1,hg.2.post n1⟩)
     |gC v=>exact xX (t:=true) JB (gB.mono kx fun c a1 w1 hg=>hg.post n1)
    |false=>
     have kx:=hk y f h ex f' h' hr μ a w W0 D0 hf H hd hW F n hF hy;cases ex with
     |go e=>exact wpIn_cond_false JB (wpIn_mono kx fun q a1 w1 hg=>⟨hg.1,hg.2.post n2⟩)
     |gC v=>exact xX (t:=false) JB (gB.mono kx fun c a1 w1 hg=>hg.post n2)
  |block id b=>
   simp only[db]at hr;have bE:F.round=none∨aj b=true:=mJ.imp (fun h=>h) fun h=>by simpa[aj]using h
   have n1:aj (.block id b)=true→aj b=true:=fun h=>by simpa[aj]using h
   split at hr
   ·rename_i jl f1 h1 hb;have kb:=hk b f h _ f1 h1 hb μ a w W0 D0 hf H hd hW F n hF bE;rw[bB]at hr;by_cases e:jl=id
    ·rw[if_pos (beq_iff.2 e)]at hr;simp only[Option.some.injEq,Prod.mk.injEq]at hr;obtain⟨rfl,rfl,rfl⟩:=hr;refine wpIn_block (wpIn_mono kb ?_);rintro q a1 w1 ⟨rfl,hg⟩;show(if jl=id then _ else _);rw[if_pos e];exact⟨rfl,hg.post n1⟩
    ·rw[if_neg (fun hh=>e (beq_iff.1 hh))]at hr;simp only[Option.some.injEq,Prod.mk.injEq]at hr;obtain⟨rfl,rfl,rfl⟩:=hr;refine wpIn_block (wpIn_mono kb ?_);rintro q a1 w1 ⟨rfl,hg⟩;show(if jl=id then _ else _);rw[if_neg e];exact⟨rfl,hg.post n1⟩
   ·rename_i GY;have kb:=hk b f h ex f' h' hr μ a w W0 D0 hf H hd hW F n hF bE;cases ex with
    |go e=>
     refine wpIn_block (wpIn_mono kb ?_);rintro q a1 w1 ⟨rfl,hg⟩;cases e with
     |normal=>exact⟨rfl,hg.post n1⟩
     |exit jl=>exact(GY _ _ _ hr).elim
     |ret=>exact⟨rfl,hg.post n1⟩
    |gC v=>exact Dg (gB.mono kb fun c a1 w1 hg=>hg.post n1)
  |loop b=>
   have bE:F.round=none∨aj b=true:=mJ.imp (fun h=>h) fun h=>by simpa[aj]using h
   have n1:aj (.loop b)=true→aj b=true:=fun h=>by simpa[aj]using h
   have kl:=rZ b f h ex f' h' hr μ a w W0 D0 hf H hd hW F n hF bE;cases ex with
   |go e=>exact wpIn_loop_rounds (k+1) (kH (fun q a1 w1 hg=>⟨hg.1,hg.2.post n1⟩) _ _ _ kl)
   |gC v=>exact F5 (m:=k+1) (ij.mono (fun c a1 w1 hg=>hg.post n1) _ _ _ kl)
  |region id ops draw=>
   simp only[db]at hr;exact Gd hE hm hc iI (BM _) (x8 _) hr hf H hd hF
  |rangeFunc g ps c7 body=>
   have Rj:F.round=none:=mJ.resolve_right (by simp[aj]);simp only[db]at hr;split at hr
   ·rename_i gid first captured h1
    simp only[ae,ax]at hr;obtain⟨aY,hr⟩:=hr;have pj:=aL H.cd hf h1;generalize hq:a.eval g=q at pj;cases pj with
    |lit hh=>simp[ar]at hh
    |func t1 t2 t3 t4=>
     rename_i dP bF;generalize vO:lZ E D base (db E D base k) gid (first.toList++[.func (.yield h.size) #[] #[]]++captured.toList) (h.push (.loop .ready none f ps.toList c7 body))=rc at hr
     have enter:∀rs,rc=some rs→∀fn:FuncId,∃(mk:Deferred) (wB:World) (O5:aS) (args':Array Value),(Instr.enterLoop fn a.tmps ps c7 body F.round).run P w= .ok (w.heap.size+1,[mk]) wB∧
      Step E base B μ h w O5 (h.push (.loop .ready none f ps.toList c7 body)) wB∧O5 h.size=some ⟨w.heap.size+1,0,0⟩∧mh W0 O5 wB D0 (mk::a.defers)∧
      (resolve a.eval (rangeCall g (w.heap.size+1)) 0).run P wB= .ok {target:=.fn (.func gid) bF,args:=dP++ #[.func (.yield (w.heap.size+1)) #[] #[]]} wB∧
      (invoke (.fn (.func gid) bF) (dP++ #[.func (.yield (w.heap.size+1)) #[] #[]])).run P wB= .ok (.enter gid args') wB∧CallsIn F (n - 1) P gid args' wB (lW E base B O5 (h.push (.loop .ready none f ps.toList c7 body)) wB rs):=by
      intro rs Q7 fn;subst Q7
      let wA:World:={w with heap:=w.heap.push (.deferred (some []))}
      let lo:Loop:={state:=.ready,pending:=none,fn:=fn,tmps:=a.tmps,params:=ps,assign:=c7,body:=body,defers:=w.heap.size}
      let wB:World:={wA with heap:=wA.heap.push (.loop lo)}
      have sA:Step E base B μ h w μ h wA:=Step.Mu H (yi.mk' w _);have GZ:wA.heap.size=w.heap.size+1:=by simp[wA]
      have sB:=Step.alloc (o:=.loop .ready none f ps.toList c7 body) sA.rel (yi.mk' wA (.loop lo)) 0 (fun _ _ _ _ hh=>by cases hh) (by
       have:=fR.loop (μ:=il μ h.size ⟨wA.heap.size,0,0⟩) (h:=h.push (.loop .ready none f ps.toList c7 body)) (base:=base) (b:=h.size) (m:=⟨wA.heap.size,0,0⟩) (st:=.ready) (p:=none) (ps:=ps.toList) (c7:=c7) (body:=body) (fn:=fn) (d:=w.heap.size) (hf.mono (dO H.fresh));simpa using this)
      let mk:Deferred:={target:=.collected w.heap.size,args:= #[]}
      have Dy:oQ W0 μ wA mk w.heap.size:=⟨rfl,by simp[wA],fun b m hb he=>by have:=H.lt hb;omega,hW⟩;obtain⟨ms,Ut,cu,fI⟩:=hd;have Ad:w.heap.size∉Ut:=by
       have:∀{ds:List Deferred} {rs:List Nat},a8 W0 μ w ds rs→∀r∈rs,r<w.heap.size:=by
        intro ds rs k
        induction k with
        |nil=>intro r hr;simp at hr
        |cons h1 _ _ ih=>intro r hr;rcases List.mem_cons.1 hr with rfl |hr
                         ·exact(Array.getElem?_eq_some_iff.1 h1.obj).1
                         ·exact ih r hr
       intro jT;have:=this fI _ jT;omega
      have hmarks:a8 W0 μ wA (mk::ms) (w.heap.size::Ut):=.cons Dy Ad (fI.step sA)
      let args':Array Value:=dP++ #[.func (.yield wA.heap.size) #[] #[]]++bF
      have oP:=BM (E:=E) (D:=D) _ _ _ _ _ vO;obtain⟨G0,Ci⟩:=Option.isSome_iff_exists.1 oP;obtain⟨g1,g2,g3⟩:=hE.func _ _ Ci;have Mz:G0.body.isNone=false:=by cases hx:G0.body<;>simp_all
      have gH:ao (il μ h.size ⟨wA.heap.size,0,0⟩) (first.toList++[.func (.yield h.size) #[] #[]]++captured.toList) args'.toList:=by
       have hle:μ.le (il μ h.size ⟨wA.heap.size,0,0⟩):=dO H.fresh;have v1:=(ao.gL t1 t2).mono hle;have v3:=(ao.gL t3 t4).mono hle;have v2:=ao.cons (ak.yield (bc μ h.size ⟨wA.heap.size,0,0⟩)) .nil;simpa[args']using(v1.append v2).append v3
      refine⟨mk,wB,_,args',?_,sA.trans sB,by rw[bc,GZ],⟨mk::ms,w.heap.size::Ut,by rw[cu];rfl,hmarks.step sB⟩,?_,?_,hc _ _ wB gid _ args' rs vO gH sB.rel F (n - 1) hF⟩
      ·rw[Rj];unfold Instr.enterLoop;simp only[Sem.run_bind,run_newObj,Result.andThen_ok,Sem.run_pure];rw[←GZ]
      ·have JB:∀v:Value,a.eval (.const v)=v:=fun _=>rfl;simp[resolve,hq,Deferred.ofValue,Sem.run_pure,JB]
      ·simp only[invoke,callFunc,Sem.run_bind,run_program,Result.andThen_ok,g1,g3,Mz,Bool.false_eq_true,if_false,Sem.run_pure];simp[args',GZ]
     cases rc with
     |none=>cases hr
     |some rs=>
      cases rs with
      |gC v h2=>
       simp only[Option.some.injEq,Prod.mk.injEq]at hr;obtain⟨rfl,rfl,rfl⟩:=hr;refine vM fun fn _=>?_;obtain⟨mk,wB,O5,args',p1,sB,_,p3,p4,p5,p6⟩:=enter _ rfl fn;refine⟨_,_,wB,_,wB,gid,args',wB,p1,p4,fun _ _=>hF.fn _,p5,hF.ok n,p6.mono ?_⟩;rintro e w3 ⟨v',lB,rfl,k1,s3⟩;exact⟨lB,v',rfl,k1,p3.step s3,fun hn=>by simp[aj]at hn,sB.trans s3⟩
      |val rv h2=>
       simp only at hr;split at hr
       ·rename_i st p f0 zT mB ik hl;simp only[ae]at hr;obtain⟨bA,hr⟩:=hr;have fin:∀(e:Ex),ex= .go e→(Code.rangeFunc g ps c7 body).wpIn F n P (fun x a' w'=>x=fC e∧JR E base B W0 D0 a.defers (aj (.rangeFunc g ps c7 body)) μ h w f' h' a' w') a w:=by
         intro e hex;refine wpIn_rangeFunc fun fn _=>?_;obtain⟨mk,wB,O5,args',p1,sB,p2,p3,p4,p5,p6⟩:=enter _ rfl fn;refine⟨_,_,wB,_,wB,gid,args',wB,p1,p4,fun _ _=>hF.fn _,p5,hF.ok n,p6.mono ?_⟩;rintro e1 w3 ⟨v',lB,rfl,k1,s3⟩;have BY:lB h.size=some ⟨w.heap.size+1,0,0⟩:=s3.le _ _ p2;obtain⟨EH,d1,d2,d3,s4⟩:=gg s3.rel BY aY hl .exhausted p;have G1:Step E base B lB h2 w3 lB (h2.put h.size (.loop .exhausted p f0 zT mB ik)) {w3 with heap:=w3.heap.setIfInBounds (w.heap.size+1) (.loop {EH with state:=.exhausted})}:=by
          rw[←d3]at s4 ⊢;exact s4
         have gh:=(sB.trans s3).trans G1;have Ls:=(p3.step s3).step G1;refine⟨p,{w3 with heap:=w3.heap.setIfInBounds (w.heap.size+1) (.loop {EH with state:=.exhausted})},?_,?_⟩
         ·unfold Instr.endLoop;simp only[Sem.run_bind,run_getLoop (P:=P) d1,Result.andThen_ok];rw[if_neg (by rw[d2];intro hh;rw[bne_iff_ne]at bA;exact bA (eq_of_beq hh))];simp only[Sem.run_bind,bj (P:=P) d1 (fun _ _ _=>by simp),Result.andThen_ok,Sem.run_pure,d3]
         ·cases p with
          |none=>
           simp only[Option.some.injEq,Prod.mk.injEq]at hr;obtain⟨rfl,rfl,rfl⟩:=hr;cases hex;exact⟨rfl,lB,hf.mono gh.le,Ls,fun hn=>by simp[aj]at hn,gh⟩
          |some cj=>
           simp only at hr;split at hr
           ·rename_i e2 f5 h5 Xy;simp only[Option.some.injEq,Prod.mk.injEq]at hr;obtain⟨rfl,rfl,rfl⟩:=hr;cases hex;refine wpIn_mono (hk cj f _ _ f5 h5 Xy lB {a with defers:=mk::a.defers} _ W0 D0 (hf.mono gh.le) G1.rel Ls (Nat.le_trans hW gh.grow.size) F n hF (.inl Rj)) ?_;rintro q a2 w2 ⟨rfl,hg⟩;exact⟨rfl,hg.pre gh fun hn=>by simp[aj]at hn⟩
           ·cases hr
        cases p with
        |none=>
         simp only[Option.some.injEq,Prod.mk.injEq]at hr;obtain⟨rfl,rfl,rfl⟩:=hr;exact fin _ rfl
        |some cj=>
         simp only at hr;split at hr
         ·simp only[Option.some.injEq,Prod.mk.injEq]at hr;obtain⟨rfl,rfl,rfl⟩:=hr;exact fin _ rfl
         ·cases hr
       ·cases hr
   ·cases hr
  |scope b=>simp only[db]at hr;cases hr
  |label l=>simp only[db]at hr;cases hr
  |goto l=>simp only[db]at hr;cases hr
  |refuse s=>simp only[db]at hr;cases hr
end
end Go.M
end
