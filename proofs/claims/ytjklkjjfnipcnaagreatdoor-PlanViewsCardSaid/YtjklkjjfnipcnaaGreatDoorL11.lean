/-
  Part 11 of the library that the proof leans on.
-/
import Derived.Test.YtjklkjjfnipcnaaGreatDoorL4
noncomputable section
namespace Go.M
open Go
abbrev Out:=List Value
abbrev KV:=Value→ab→Option Out
abbrev oA:=FuncId→List Value→ab→KV→Option Out
abbrev lQ:=Nat→List Value→ab→KV→Option Out
abbrev KC:=Ex→AF→ab→Option Out
def meet:List (Option Out)→Option Out
 |[]=>none
 |x::xs=>x.bind fun o=>aW (xs.all fun y=>match y with|some o'=>dL o o'|none=>false) (some o)
def qk (h:ab) (r base:Nat) (K:KV):Option Out:=
 aW (Nat.ble base r)<|
 match h.get r with
 |some (.bM none _ _ _)=>K (.tuple #[.bool false]) h
 |some (.bM (some m) since seen last)=>(match h.get m with
  |some (.map es clock)=>
   aW (!(!seen.isEmpty&& !es.isEmpty&&es.all (fun e=>Nat.ble last e.born)))<|
   (match es.filter (fun e=> !seen.contains e.born)with
   |[]=>K (.tuple #[.bool false]) h
   |e::l=>meet ((e::l).map fun e=>aW (Nat.blt e.born since) (K (.tuple #[.bool true,e.key,e.val]) (h.put r (.bM (some m) since (seen++[e.born]) clock)))))
  |_=>none)
 |_=>none
def xG (E:Env) (base:Nat) (cK:oA) (rK:lQ) (o:Oper) (f:AF) (h:ab) (K:KV):Option Out:=
 match o.op with
 | .next it false=>(match(ev E f it).bind iO with
  |some r=>qk h r base K
  |none=>none)
 |_=>
  match aB E f o with
  |some v=>K v h
  |none=>match ba E f o with
   |some q=>(match q.run h with|some v=>K v h|none=>none)
   |none=>match aP E f o with
    |some (m,hd)=>K (hd.val h.size) (h.push (m.obj h.size))
    |none=>match bT E base f o h with
     |some (.val v,h')=>K v h'
     |some (.enter g args,h')=>cK g args h' K
     |some (.round l args,h')=>rK l args h' K
     |none=>none
def iS (E:Env) (base:Nat) (cK:oA) (rK:lQ) (ops:List Oper):List Oper→AF→ab→(AF→ab→Option Out)→Option Out
 |[],f,h,K=>K f h
 |o::rest,f,h,K=>
  match wanted ops o f with
  |true=>xG E base cK rK o f h fun v h'=>iS E base cK rK ops rest (f.put o.dst v) h' K
  |false=>iS E base cK rK ops rest (f.put o.dst undef) h K
abbrev Fz:=Code→AF→ab→KC→Option Out
def bN (E:Env) (base:Nat) (run:Fz):oA:=fun g args h K=>
 match E.func g with
 |none=>none
 |some fn=>match E.mn base g args h with
  |some r=>K r.1 r.2
  |none=>match fn.body with
   |none=>none
   |some c=>aW (Nat.ble args.length fn.ntmps)<|run c (AF.enter args fn.ntmps) h fun ex f h'=>
    match ex with
    | .exit _=>none
    |_=>match bx E h' f fn.results.toList with
     |some vs=>K (aZ vs) h'
     |none=>none
def gp (base:Nat) (run:Fz):lQ:=fun l args h K=>
 aW (Nat.ble base l)<|
 match h.get l with
 |some (.loop .ready _ f ps c7 body)=>aW (Nat.beq ps.length args.length&&aj c7&&aj body)<|
  run c7 (AF.fT (ps.zip args) f) h fun ex f1 h1=>
   (match ex with
   | .normal=>(match h1.get l with
    |some (.loop .ready p1 f0 td jc eH)=>
     run body f1 (h1.put l (.loop .busy p1 f0 td jc eH)) fun Nh _ h2=>
      (match h2.get l with
      |some (.loop _ _ f0 td jc eH)=>
       (match Nh with
       | .normal=>K (.bool true) (h2.put l (.loop .ready none f0 td jc eH))
       | .ret=>K (.bool false) (h2.put l (.loop .done (some .ret) f0 td jc eH))
       | .exit id=>K (.bool false) (h2.put l (.loop .done (some (.exit id)) f0 td jc eH)))
      |_=>none)
    |_=>none)
   |_=>none)
 |_=>none
noncomputable def aq (E:Env) (base:Nat):Nat→Fz
 |0,_,_,_,_=>none
 |n+1,c,f,h,K=>
  match c with
  | .skip=>K .normal f h
  | .region _ ops draw=>(match draw with
   |false=>iS E base (bN E base (aq E base n)) (gp base (aq E base n)) ops.toList ops.toList f h fun f' h'=>K .normal f' h'
   |true=>(match jY E base (aT E base n) ops true f h with
    |some (ex,f',h')=>K ex f' h'
    |none=>none))
  | .seq a b=>aq E base n a f h fun ex f' h'=>(match ex with
   | .normal=>aq E base n b f' h' K
   |ex=>K ex f' h')
  | .cond c t e=>(match(ev E f c).bind sN with
   |some true=>aq E base n t f h K
   |some false=>aq E base n e f h K
   |none=>none)
  | .block id b=>aq E base n b f h fun ex f' h'=>(match ex with
   | .exit jl=>bif Nat.beq jl id then K .normal f' h' else K (.exit jl) f' h'
   |ex=>K ex f' h')
  | .loop b=>aq E base n b f h fun ex f' h'=>(match ex with
   | .normal=>aq E base n (.loop b) f' h' K
   |ex=>K ex f' h')
  | .exit id=>K (.exit id) f h
  | .ret=>K .ret f h
  | .rangeFunc g ps c7 body=>(match ev E f g with
   |some (.func (.func g) first captured)=>aW (Nat.ble base h.size)<|
    bN E base (aq E base n) g (first.toList++[.func (.yield h.size) #[] #[]]++captured.toList) (h.push (.loop .ready none f ps.toList c7 body)) fun _ h1=>
     (match h1.get h.size with
     |some (.loop st p f0 zT mB ik)=>aW (st != .busy) (match p with
      |none=>K .normal f (h1.put h.size (.loop .exhausted p f0 zT mB ik))
      |some c=>aq E base n c f (h1.put h.size (.loop .exhausted p f0 zT mB ik)) K)
     |_=>none)
   |_=>none)
  |_=>none
noncomputable def D4 (E:Env) (base n:Nat):oA:=bN E base (aq E base n)
section
variable {P:Program} {E:Env} {μ:aS} {f:AF} {a:Act} {base B:Nat} {h:ab} {w:World}
theorem bX.get' {l l':List MapEntry} (hs:bX μ l l'):∀(i:Nat) (e':MapEntry),l'[i]? =some e'→∃e,l[i]? =some e∧ak μ e.key e'.key∧ak μ e.val e'.val∧e.born=e'.born:=by
 induction hs with
 |nil=>intro i e' h;simp at h
 |cons q1 q2 q3 _ ih=>
  intro i e' h;cases i with
  |zero=>simp at h;subst h;exact⟨_,rfl,q1,q2,q3⟩
  |succ i=>simpa using ih i e' (by simpa using h)
theorem wK (n:Nat) (hn:0<n) (w:World):∃i d,i<n∧(choose (.mapNext n)).run P w= .ok i {w with drawn:=d}:=by
 rw[run_choose];by_cases hf:(Question.mapNext n).forced=true
 ·rw[if_pos hf];exact⟨0,w.drawn,hn,rfl⟩
 ·rw[if_neg hf];exact⟨_,w.drawn+1,Nat.mod_lt _ hn,rfl⟩
theorem FA {l:List (Option Out)} {o:Out} (h:meet l=some o):∀x∈l,x=some o:=by
 cases l with
 |nil=>intro x hx;simp at hx
 |cons y ys=>
  simp only[meet,Option.bind_eq_some_iff,ae,Option.some.injEq,List.all_eq_true]at h;obtain⟨o',rfl,h2,rfl⟩:=h;intro x hx;rcases List.mem_cons.1 hx with rfl |hx
  ·rfl
  ·have:=h2 x hx;cases x with
   |none=>simp at this
   |some o2=>simp only at this;rw[nD this]
theorem FB (H:aM E base B μ h w) {r:Nat} {m:MT} {K:KV} {out:Out} (ty:TypeId) (hk:qk h r base K=some out) (hb:μ r=some m):
 ∃v h' v' w',K v h'=some out∧(Instr.next (.pointer (some ⟨m.r,0,none⟩)) false ty).run P w= .ok v' w'∧ak μ v v'∧Step E base B μ h w μ h' w':=by
 unfold qk at hk;simp only[ae,ax]at hk;obtain⟨aY,hk⟩:=hk;obtain⟨o1,o2,k1,k2,k3⟩:=H.obj r m hb;split at hk
 ·rename_i since seen last hg;rw[hg]at k1;cases k1;cases k3 with
  |kp fI=>
   have nB:=run_getObj_map (P:=P) k2 (fun _ _ _=>by simp);refine⟨_,_,_,w,hk,?_,.cq (by simpa using ao.cons (.bool μ false) .nil),.refl H⟩;unfold Instr.next;simp only[Sem.run_bind,nB,Result.andThen_ok];rfl
 ·rename_i mm since seen last hg;rw[hg]at k1;cases k1;cases k3 with
  |bM RN fI=>
   rename_i mk;have nB:=run_getObj_map (P:=P) k2 (fun _ _ _=>by simp);split at hk
   ·rename_i es clock GS;obtain⟨p1,p2,j1,j2,j3⟩:=H.obj mm mk RN;rw[GS]at j1;cases j1;cases j3 with
    |map hs=>
     rename_i bC;have Cf:=run_getObj_map (P:=P) j2 (fun _ _ _=>by simp);simp only[ae]at hk;obtain⟨l5,hk⟩:=hk;have hlen:=hs.length;have Mt:bC.isEmpty=es.isEmpty:=by
      cases es<;>cases h9:bC.toList<;>rw[h9]at hlen<;>simp at hlen
      ·have:bC= #[]:=by apply Array.ext';simp[h9]
       simp[this]
      ·have:bC.size≠0:=by have:=congrArg List.length h9;simp at this;omega
       simp[Array.isEmpty,this]
     have iP:(bC.all fun e=>decide (e.born≥last))=es.all (fun e=>Nat.ble last e.born):=by
      rw[←Array.all_toList,←hs.Ab (fun n=>decide (n≥last))]
      congr 1
      funext e
      rw[Bool.eq_iff_iff,ax];simp
     have Ac:(!seen.toArray.isEmpty&& !bC.isEmpty&&bC.all fun e=>decide (e.born≥last))=false:=by
      rw[Mt,iP];have:seen.toArray.isEmpty=seen.isEmpty:=by cases seen<;>simp
      rw[this];simpa only[Bool.not_eq_true']using l5
     have oe:=hs.filter (fun n=> !seen.contains n);have wX:(bC.filter fun e=> !seen.toArray.contains e.born).toList=bC.toList.filter (fun e=> !seen.contains e.born):=by
      simp
     generalize hL:(bC.filter fun e=> !seen.toArray.contains e.born)=left at wX;split at hk
     ·rename_i hf;rw[hf]at oe;have qB:left= #[]:=by
       apply Array.ext';rw[wX];cases ua:bC.toList.filter (fun e=> !seen.contains e.born)with
       |nil=>rfl
       |cons x y=>rw[ua]at oe;cases oe
      refine⟨_,_,_,w,hk,?_,.cq (by simpa using ao.cons (.bool μ false) .nil),.refl H⟩;unfold Instr.next;simp only[Sem.run_bind,nB,Cf,Result.andThen_ok,Ac,Bool.false_eq_true,if_false,hL,qB];simp[Question.forced]
     ·rename_i e0 l0 hf;rw[←hf]at hk;rw[←wX]at oe;have EM:=FA hk;have hk:∀e∈es.filter (fun e=> !seen.contains e.born),e.born<since∧K (.tuple #[.bool true,e.key,e.val]) (h.put r (.bM (some mm) since (seen++[e.born]) clock))=some out:=fun e he=>by
       have:=EM _ (List.mem_map_of_mem he);simp only[ae,aF]at this;exact this
      have cI:0<left.size:=by
       have:=oe.length;rw[hf]at this;simp at this;omega
      have hold:∀x∈left,x.born<since:=by
       intro x hx;obtain⟨i,hi⟩:=List.mem_iff_getElem?.1 (by simpa using hx:x∈left.toList);obtain⟨e,h1,_,_,h4⟩:=oe.get' i x hi;rw[←h4];exact(hk e (List.mem_of_getElem? h1)).1
      have f1:(left.filter fun x=>decide (x.born<since))=left:=by
       apply Array.filter_eq_self.2;intro x hx;simpa using hold x hx
      have f2:(left.filter fun x=>decide (x.born≥since))= #[]:=by
       apply Array.filter_eq_empty_iff.2;intro x hx;have:=hold x hx;simp;omega
      have f3:left.isEmpty=false:=by
       cases hle:left.isEmpty with
       |false=>rfl
       |true=>
        have:left= #[]:=by simpa using hle
        rw[this]at cI;simp at cI
      obtain⟨i,d,hi,WQ⟩:=wK (P:=P) left.size cI w;have Vg:=Array.getElem?_eq_getElem hi;obtain⟨e,h1,h2,h3,h4⟩:=oe.get' i left[i] (by rw[Array.getElem?_toList];exact Vg);obtain⟨Pq,WR⟩:=hk e (List.mem_of_getElem? h1);have Hd:=H.congr (w':={w with drawn:=d}) rfl;have GQ:=fun o=>bj (P:=P) (w:={w with drawn:=d}) (o:=o) k2 (fun _ _ _=>by simp);have st:=Step.put (o:=.bM (some mm) since (seen++[e.born]) clock) Hd hb aY hg rfl rfl (wT.set {w with drawn:=d} m.r (.mapIter (some mk.r) since (seen.toArray.push left[i].born) clock) (Hd.lt hb)) (by
       have:=fR.bM (μ:=μ) (h:=h.put r (.bM (some mm) since (seen++[e.born]) clock)) (base:=base) (b:=r) (m:=m) (since:=since) (last:=clock) (seen:=seen++[e.born]) RN fI;rw[h4]at this ⊢;simpa using this)
      refine⟨_,_,_,_,WR,?_,.cq (by simpa using ao.cons (.bool μ true) (.cons h2 (.cons h3 .nil))),(Step.drawn H d).trans st⟩;unfold Instr.next;simp only[Sem.run_bind,nB,Cf,Result.andThen_ok,Ac,Bool.false_eq_true,if_false,hL,f1,f2,f3];have f4:(#[]++(left++ #[]).map some:Array (Option MapEntry))=left.map some:=by simp
      rw[f4];simp only[Array.size_map,WQ,Result.andThen_ok,Array.getElem?_map,Vg,Option.map_some,Sem.run_bind,GQ,Sem.run_pure]
   ·cases hk
 ·cases hk
end
def KE (E:Env) (base B:Nat) (μ:aS) (h:ab) (w:World) (K:KV) (out:Out):Ending→World→Prop:=
 fun e w'=>∃v v' h' az,K v h'=some out∧e= .returned v'∧ak az v v'∧Step E base B μ h w az h' w'
def tI (P:Program) (E:Env) (base B:Nat) (cK:oA):Prop:=
 ∀(μ:aS) (h:ab) (w:World) (g:FuncId) (args:List Value) (args':Array Value) (K:KV) (out:Out),cK g args h K=some out→ao μ args args'.toList→aM E base B μ h w→
  ∀(F:Fence) (n:Nat),c4 F→CallsIn F n P g args' w (KE E base B μ h w K out)
def vk (P:Program) (E:Env) (base B:Nat) (rK:lQ):Prop:=
 ∀(μ:aS) (h:ab) (w:World) (l:Nat) (args:List Value) (K:KV) (out:Out) (m:MT) (f0:AF) (ps:List Tmp) (c7 body:Code) (st:LoopState) (p:Option Code) (fn:FuncId) (tmps:Array Value),
  rK l args h K=some out→h.get l=some (.loop st p f0 ps c7 body)→μ l=some m→aM E base B μ h w→bw μ (AF.fT (ps.zip args) f0) tmps→
  ∀(F:Fence) (n:Nat),c4 F→RoundIn F n P m.r fn tmps c7 body w (KE E base B μ h w K out)
def vl (E:Env) (cK:oA):Prop:=∀g args h K out,cK g args h K=some out→(E.func g).isSome=true
def rB (rK:lQ):Prop:=∀l args h K out,rK l args h K=some out→∃st p f0 ps c7 body,h.get l=some (.loop st p f0 ps c7 body)∧ps.length=args.length
section
variable {P:Program} {E:Env} {μ:aS} {f:AF} {a:Act} {base B:Nat} {h:ab} {w:World} {cK:oA} {rK:lQ}
theorem Ic {o:Oper} {K:KV} {out:Out} {k:ab} (h:xG E base cK rK o f k K=some out):∀c,o.op≠ .defer c:=by
 intro c hc;unfold xG at h;simp only[aB,ba,aP,bT,hc]at h;cases h
theorem KF (hE:aU P E) (sR:tI P E base B cK) (uf:vk P E base B rK) (j6:vl E cK) (j7:rB rK) {F:Fence} (hF:c4 F) {n:Nat} (hf:bw μ f a.tmps) (H:aM E base B μ h w) {o:Oper} {K:KV} {out:Out} (hr:xG E base cK rK o f h K=some out)
 {next:Act→World→Prop} {Q:Exit→Act→World→Prop} (hn:∀az v v' h' w',K v h'=some out→ak az v v'→Step E base B μ h w az h' w'→next (a.put o.dst v') w'):o.wpIn F n P a w next Q:=by
 have hg:eE E μ:=H.cd;refine⟨fun _ _=>hF.fn _,?_⟩;rw[Oper.semAt_eq _ _ _ (Ic hr)];unfold xG at hr;split at hr
 ·rename_i it e7;split at hr
  ·rename_i r hit;simp only[Option.bind_eq_some_iff]at hit;obtain⟨v1,h1,h2⟩:=hit;have e:=mI h2;subst e;obtain⟨m,hb,ex⟩:=(aL hg hf h1).jd;have fI:m.s=0:=by
    obtain⟨o1,o2,k1,k2,k3⟩:=H.obj r m hb;unfold qk at hr;simp only[ae]at hr;have qC:=hr.2;cases k3 with
    |gD hs=>exact hs
    |kp hs=>exact hs
    |bM _ hs=>exact hs
    |_=>rw[k1]at qC;simp at qC
   obtain⟨v,h',v',w',q0,q1,q2,q3⟩:=FB (P:=P) H o.type hr hb;rw[fI]at ex;have he:(execOp a.eval o).run P w= .ok (.value v') w':=by
    unfold execOp;rw[e7];simp only[ex,Nat.add_zero,Sem.run_bind];rw[q1];simp
   rw[he];exact hn μ v v' h' w' q0 q2 q3
  ·cases hr
 ·split at hr
  ·rename_i v hp;obtain⟨v',q1,q2⟩:=nA hE hg hf hp;rw[q2 w];exact hn μ _ v' _ w hr q1 (.refl H)
  ·split at hr
   ·rename_i q hq;split at hr
    ·rename_i v hv;obtain⟨v',q1,q2⟩:=qM hE hf H hq hv;rw[q2];exact hn μ _ v' _ w hr q1 (.refl H)
    ·cases hr
   ·split at hr
    ·rename_i md hd dx;obtain⟨o',k,hv,S⟩:=lr hE hg hf dx;rw[S.run w];have st:=Step.alloc (o:=md.obj h.size) H (yi.mk' w o') k (fun cs f cp aE hh=>by cases md<;>simp[Made.obj]at hh;exact⟨hh.2.1.symm,hh.2.2.1.symm⟩) (S.obj _ _ _ _ _ (dO H.fresh));exact hn _ _ _ _ _ hr (S.val _ _ _ (bc _ _ _)) st
    ·split at hr
     ·rename_i v h' he;obtain⟨az,nx,v',w',q1,q2,q3,q4⟩:=ue hE hf H he;rw[q1];rcases q2 with rfl |⟨rfl,rfl⟩
      ·exact hn az _ v' _ w' hr q3 q4
      ·exact hn az _ undef _ w' hr q3 q4
     ·rename_i g args h' he;have oP:=j6 _ _ _ _ _ hr;obtain⟨args',e,q1,q2⟩:=ly hE hf H he oP;subst e;rw[q2];refine⟨hF.ok n,(sR μ h' w g args args' K out hr q1 H F (n - 1) hF).mono ?_⟩;rintro e w' ⟨v,v',h2,az,k0,rfl,k1,k2⟩;exact hn az v v' h2 w' k0 k1 k2
     ·rename_i l args h' he;obtain⟨st,p,f0,ps,c7,body,hl,hlen⟩:=j7 _ _ _ _ _ hr;have hh:h'=h:=by
       obtain⟨dst,op,type,pos,after,guard⟩:=o;cases op<;>simp only[bT]at he<;>first|cases he|skip
       all_goals simp only[Option.bind_eq_some_iff,Option.some.injEq,Prod.mk.injEq,ae,reduceCtorEq,false_and,and_false,exists_false]at he
       ·obtain⟨_,_,_,_,he⟩:=he;split at he
        ·split at he<;>simp at he
        ·cases he
       ·obtain⟨_,_,he⟩:=he;split at he
        ·first|(simp at he;done)|(obtain⟨_,_,he⟩:=he;simp at he;done)|(simp only[Option.bind_eq_some_iff]at he;obtain⟨_,_,he⟩:=he;cases he)
        ·try simp only[Option.bind_eq_some_iff]at he
         obtain⟨_,_,he⟩:=he;split at he
         ·simp at he
         ·simp only[Option.some.injEq,Prod.mk.injEq]at he;exact he.2.symm
         ·cases he
        ·cases he
      subst hh;obtain⟨m,args',lo,_,hb,hw,q1,q2,q3⟩:=lz (P:=P) hf H he hl hlen;rw[q2];refine⟨hF.ok n,(uf μ h' w l args K out m f0 ps c7 body st p lo.fn _ hr hl hb H (jF q3 q1) F (n - 1) hF).mono ?_⟩;rintro e w' ⟨v,v',h2,az,k0,rfl,k1,k2⟩;exact hn az v v' h2 w' k0 k1 k2
     ·cases hr
theorem vm (hE:aU P E) (sR:tI P E base B cK) (uf:vk P E base B rK) (j6:vl E cK) (j7:rB rK) {F:Fence} (hF:c4 F) {n:Nat} {ops:Array Oper} {Q:Exit→Act→World→Prop} {K:AF→ab→Option Out} {out:Out}:∀(rest:List Oper) (k:Nat) (μ:aS) (f:AF) (h:ab) (a:Act) (w:World),
 (∀j,rest[j]? =ops[k+j]?)→iS E base cK rK ops.toList rest f h K=some out→bw μ f a.tmps→aM E base B μ h w→
 (∀f' h' az a' w',K f' h'=some out→bw az f' a'.tmps→a'.defers=a.defers→Step E base B μ h w az h' w'→Q .normal a' w')→wpOpsIn F n P ops Q (List.range' k rest.length) a w
 |[],k,μ,f,h,a,w,_,ha,hf,H,hQ=>hQ _ _ μ a w ha hf rfl (.refl H)
 |o::rest,k,μ,f,h,a,w,hk,ha,hf,H,hQ=>by
  have h0:ops[k]? =some o:=by simpa using(hk 0).symm
  have l6:∀j,rest[j]? =ops[k+1+j]? :=fun j=>by have:=hk (j+1);simpa[Nat.add_assoc,Nat.add_comm 1 j]using this
  simp only[List.length_cons,List.range'_succ,wpOpsIn,h0,gO hf];simp only[iS]at ha;split at ha
  ·rename_i hw;rw[if_pos hw];refine KF hE sR uf j6 j7 hF hf H ha fun az v v' h' w' q0 q1 q2=>?_;refine vm hE sR uf j6 j7 hF rest (k+1) az (f.put o.dst v) h' _ w' l6 q0 ((hf.mono q2.le).put q1 o.dst) q2.rel fun f2 h2 od a2 w2 p0 p1 p2 p3=>?_;exact hQ f2 h2 od a2 w2 p0 p1 (by rw[p2];cases o.dst<;>rfl) (q2.trans p3)
  ·rename_i hw;rw[if_neg (by rw[hw];simp)];refine⟨fun _ _=>hF.fn _,?_⟩;refine vm hE sR uf j6 j7 hF rest (k+1) μ (f.put o.dst undef) h _ w l6 ha (hf.put (.undef μ) o.dst) H fun f2 h2 od a2 w2 p0 p1 p2 p3=>?_;exact hQ f2 h2 od a2 w2 p0 p1 (by rw[p2];cases o.dst<;>rfl) p3
def zk (P:Program) (E:Env) (base B k:Nat):Prop:=
 ∀(c:Code) (f:AF) (h:ab) (K:KC) (out:Out),aq E base k c f h K=some out→
  ∀(μ:aS) (a:Act) (w:World) (W0:Nat) (rs:List Nat),bw μ f a.tmps→aM E base B μ h w→a8 W0 μ w a.defers rs→W0≤w.heap.size→
  ∀(F:Fence) (n:Nat) (Q:Exit→Act→World→Prop),c4 F→(F.round=none∨aj c=true)→
  (∀ex f' h' az a' w' Ae,K ex f' h'=some out→bw az f' a'.tmps→a8 W0 az w' a'.defers Ae→Step E base B μ h w az h' w'→Q (fC ex) a' w')→c.wpIn F n P Q a w
theorem Bg (run:Fz):vl E (bN E base run):=by
 intro g args h K out hr;unfold bN at hr;split at hr
 ·cases hr
 ·rename_i fn Gn;rw[Gn];rfl
theorem FC (run:Fz):rB (gp base run):=by
 intro l args h K out hr;unfold gp at hr;simp only[ae]at hr;obtain⟨_,hr⟩:=hr;split at hr
 ·rename_i p f ps c7 body hg;simp only[ae,Bool.and_eq_true,beq_iff]at hr;exact⟨_,_,_,_,_,_,hg,hr.1.1.1⟩
 ·cases hr
theorem D5 (hE:aU P E) (hO:eZ P E base B) {k:Nat} (hk:zk P E base B k):tI P E base B (bN E base (aq E base k)):=by
 intro μ h w g args args' K out hc hr H F n hF;unfold bN at hc;split at hc
 ·cases hc
 rename_i fn h1;split at hc
 ·rename_i r ho;refine(hO μ h w g args args' r.1 r.2 ho hr H F n hF).mono ?_;rintro e w' ⟨v',az,rfl,k1,k2⟩;exact⟨_,v',_,az,hc,rfl,k1,k2⟩
 ·split at hc
  ·cases hc
  rename_i c h2;simp only[ae,ax]at hc;obtain⟨hn,hc⟩:=hc;obtain⟨f1,f2,f3⟩:=hE.func _ _ h1;have fin:CallsIn F.plain n P g args' w (KE E base B μ h w K out):=by
   refine callsIn_of_wp_marks f1 h2 (hF.fn _) ?_ rfl;refine hk c _ h _ out hc μ _ w w.heap.size [] (jm hr hn) H .nil (Nat.le_refl _) F.plain n _ hF.plain (.inl rfl) ?_;intro ex fe he az a' w' Ae q0 q1 q2 q3
   have lv:∀vs,bx E he fe fn.results.toList=some vs→K (aZ vs) he=some out→LeavesInM F.plain n P fn a'.tmps (KE E base B μ h w K out) a'.defers .returning w':=fun vs h3 h4=>
    lA a'.defers Ae w' q2 q3 fun w2 s2=>by
     obtain⟨v',p1,p2⟩:=iw (P:=P) hE q1 s2.rel h3;exact⟨v',p1,_,v',_,az,h4,rfl,p2,s2⟩
   cases ex with
   |exit id=>simp at q0
   |normal=>
    simp only at q0;split at q0
    ·rename_i vs h3;exact lv vs h3 q0
    ·cases q0
   |ret=>
    simp only at q0;split at q0
    ·rename_i vs h3;exact lv vs h3 q0
    ·cases q0
  exact fin
end
section
variable {P:Program} {E:Env} {base B:Nat}
theorem Ie {k:Nat} (hk:zk P E base B k):vk P E base B (gp base (aq E base k)):=by
 intro μ h w l args K out m f0 ps c7 body st p fn tmps hr hl hb H hf F n hF;unfold gp at hr;simp only[ae,ax]at hr;obtain⟨aY,hr⟩:=hr;rw[hl]at hr;cases st with
 |ready=>
  simp only[ae,Bool.and_eq_true,beq_iff]at hr;obtain⟨⟨⟨hlen,yB⟩,k8⟩,hr⟩:=hr;refine roundIn_of_wpIn (hF.fn _) ?_;refine hk c7 _ h _ out hr μ _ w w.heap.size [] hf H .nil (Nat.le_refl _) (F.inRound m.r) n _ (hF.inRound _) (.inr yB) ?_;intro WS f1 h1 b6 a1 w1 pK q0 q1 q2 s1;cases WS with
  |exit id=>simp at q0
  |ret=>simp at q0
  |normal=>
   simp only at q0;split at q0
   ·rename_i p1 Pu td jc eH wu;have kL:=s1.le _ _ hb;obtain⟨Mw,e1,e2,e3,s2⟩:=gg s1.rel kL aY wu .busy p1;have Mx:Step E base B b6 h1 w1 b6 (h1.put l (.loop .busy p1 Pu td jc eH)) {w1 with heap:=w1.heap.setIfInBounds m.r (.loop {Mw with state:=.busy})}:=by
     rw[←e3]at s2 ⊢;exact s2
    refine⟨{w1 with heap:=w1.heap.setIfInBounds m.r (.loop {Mw with state:=.busy})},?_,?_⟩
    ·unfold Instr.beginRound;simp only[Sem.run_bind,run_getLoop (P:=P) e1,Result.andThen_ok,bj (P:=P) e1 (fun _ _ _=>by simp),e2,Sem.run_pure]
    refine hk body f1 _ _ out q0 b6 a1 _ w.heap.size pK q1 Mx.rel (q2.step Mx) (by rw[Array.size_setIfInBounds];exact s1.grow.size) (F.inRound m.r) n _ (hF.inRound _) (.inr k8) ?_;intro ex f2 h2 lB a3 w3 VT q0 q3 q4 s3;have gh:=(s1.trans Mx);have BY:=s3.le _ _ kL;split at q0
    ·rename_i UO p2 Pv Pw GX Ag zG;have key:∀(wY:LoopState) (jump:Option Code),(jump.isNone=true→wY= .ready)→(jump.isNone=false→wY= .done)→∃w4,(Instr.endRound m.r jump).run P w3= .ok (.bool jump.isNone) w4∧Step E base B lB h2 w3 lB (h2.put l (.loop wY jump Pv Pw GX Ag)) w4:=by
      intro wY jump J2 EG;obtain⟨EH,d1,d2,d3,s4⟩:=gg s3.rel BY aY zG wY jump;refine⟨_,?_,s4⟩;unfold Instr.endRound;simp only[Sem.run_bind,run_getLoop (P:=P) d1,Result.andThen_ok,bj (P:=P) d1 (fun _ _ _=>by simp),Sem.run_pure];cases hj:jump.isNone with
      |true=>rw[J2 hj];simp
      |false=>rw[EG hj];simp
     cases ex with
     |normal=>
      obtain⟨w4,k1,k2⟩:=key .ready none (fun _=>rfl) (fun h=>by simp at h);exact⟨_,w4,k1,_,_,_,lB,q0,rfl,.bool _ _,(gh.trans s3).trans k2⟩
     |ret=>
      obtain⟨w4,k1,k2⟩:=key .done (some .ret) (fun h=>by simp at h) (fun _=>rfl);exact⟨_,w4,k1,_,_,_,lB,q0,rfl,.bool _ _,(gh.trans s3).trans k2⟩
     |exit id=>
      obtain⟨w4,k1,k2⟩:=key .done (some (.exit id)) (fun h=>by simp at h) (fun _=>rfl);exact⟨_,w4,k1,_,_,_,lB,q0,rfl,.bool _ _,(gh.trans s3).trans k2⟩
    ·cases q0
   ·cases q0
 |busy=>cases hr
 |done=>cases hr
 |exhausted=>cases hr
theorem KG (hE:aU P E) (hO:eZ P E base B) (hD:yz P E base B):∀k,zk P E base B k∧
 (∀(b:Code) (f:AF) (h:ab) (K:KC) (out:Out),aq E base k (.loop b) f h K=some out→
  ∀(μ:aS) (a:Act) (w:World) (W0:Nat) (rs:List Nat),bw μ f a.tmps→aM E base B μ h w→a8 W0 μ w a.defers rs→W0≤w.heap.size→
  ∀(F:Fence) (n:Nat) (Q:Exit→Act→World→Prop),c4 F→(F.round=none∨aj b=true)→
  (∀ex f' h' az a' w' Ae,K ex f' h'=some out→bw az f' a'.tmps→a8 W0 az w' a'.defers Ae→Step E base B μ h w az h' w'→Q (fC ex) a' w')→Code.roundsIn F n P b Q k a w):=by
 intro k
 induction k with
 |zero=>exact⟨fun c f h K out hr=>by simp[aq]at hr,fun b f h K out hr=>by simp[aq]at hr⟩
 |succ k ih=>
  obtain⟨hk,Ah⟩:=ih;have iZ:=D5 hE hO hk;have yC:=Ie hk
  have rZ:∀(b:Code) (f:AF) (h:ab) (K:KC) (out:Out),aq E base (k+1) (.loop b) f h K=some out→
   ∀(μ:aS) (a:Act) (w:World) (W0:Nat) (rs:List Nat),bw μ f a.tmps→aM E base B μ h w→a8 W0 μ w a.defers rs→W0≤w.heap.size→
   ∀(F:Fence) (n:Nat) (Q:Exit→Act→World→Prop),c4 F→(F.round=none∨aj b=true)→
   (∀ex f' h' az a' w' Ae,K ex f' h'=some out→bw az f' a'.tmps→a8 W0 az w' a'.defers Ae→Step E base B μ h w az h' w'→Q (fC ex) a' w')→Code.roundsIn F n P b Q (k+1) a w:=by
   intro b f h K out hr μ a w W0 rs hf H hm hW F n Q hF mJ hQ;simp only[aq]at hr;rw[roundsIn_succ];refine hk b f h _ out hr μ a w W0 rs hf H hm hW F n _ hF mJ fun ex f1 h1 b6 a1 w1 pK q0 q1 q2 s1=>?_;cases ex with
   |normal=>exact Ah b f1 h1 K out q0 b6 a1 w1 W0 pK q1 s1.rel q2 (Nat.le_trans hW s1.grow.size) F n Q hF mJ fun ex f2 h2 od a2 w2 My p0 p1 p2 s2=>hQ ex f2 h2 od a2 w2 My p0 p1 p2 (s1.trans s2)
   |exit id=>exact hQ _ f1 h1 b6 a1 w1 pK q0 q1 q2 s1
   |ret=>exact hQ _ f1 h1 b6 a1 w1 pK q0 q1 q2 s1
  refine⟨?_,rZ⟩;intro c f h K out hr μ a w W0 rs hf H hm hW F n Q hF mJ hQ;cases c with
  |skip=>exact wpIn_skip (hQ .normal f h μ a w rs (by simpa[aq]using hr) hf hm (.refl H))
  |exit id=>exact wpIn_exit (hQ (.exit id) f h μ a w rs (by simpa[aq]using hr) hf hm (.refl H))
  |ret=>exact wpIn_ret (hQ .ret f h μ a w rs (by simpa[aq]using hr) hf hm (.refl H))
  |seq x y=>
   simp only[aq]at hr;have hx:F.round=none∨aj x=true:=mJ.imp (fun h=>h) fun h=>by simp[aj]at h;exact h.1
   have hy:F.round=none∨aj y=true:=mJ.imp (fun h=>h) fun h=>by simp[aj]at h;exact h.2
   refine wpIn_seq ?_;refine hk x f h _ out hr μ a w W0 rs hf H hm hW F n _ hF hx fun ex f1 h1 b6 a1 w1 pK q0 q1 q2 s1=>?_;cases ex with
   |normal=>exact hk y f1 h1 K out q0 b6 a1 w1 W0 pK q1 s1.rel q2 (Nat.le_trans hW s1.grow.size) F n Q hF hy fun ex f2 h2 od a2 w2 My p0 p1 p2 s2=>hQ ex f2 h2 od a2 w2 My p0 p1 p2 (s1.trans s2)
   |exit id=>exact hQ _ f1 h1 b6 a1 w1 pK q0 q1 q2 s1
   |ret=>exact hQ _ f1 h1 b6 a1 w1 pK q0 q1 q2 s1
  |cond cx x y=>
   simp only[aq]at hr;have hx:F.round=none∨aj x=true:=mJ.imp (fun h=>h) fun h=>by simp[aj]at h;exact h.1
   have hy:F.round=none∨aj y=true:=mJ.imp (fun h=>h) fun h=>by simp[aj]at h;exact h.2
   cases hb:(ev E f cx).bind sN with
   |none=>rw[hb]at hr;cases hr
   |some b=>
    simp only[Option.bind_eq_some_iff]at hb;obtain⟨v,h1,h2⟩:=hb;have hb:(ev E f cx).bind sN=some b:=by simp[h1,h2]
    rw[hb]at hr;have e:=pF h2;subst e;have hc:=(aL H.cd hf h1).an rfl;cases b with
    |true=>exact wpIn_cond_true hc (hk x f h K out hr μ a w W0 rs hf H hm hW F n Q hF hx hQ)
    |false=>exact wpIn_cond_false hc (hk y f h K out hr μ a w W0 rs hf H hm hW F n Q hF hy hQ)
  |block id b=>
   simp only[aq]at hr;have bE:F.round=none∨aj b=true:=mJ.imp (fun h=>h) fun h=>by simpa[aj]using h
   refine wpIn_block ?_;refine hk b f h _ out hr μ a w W0 rs hf H hm hW F n _ hF bE fun ex f1 h1 b6 a1 w1 pK q0 q1 q2 s1=>?_;cases ex with
   |normal=>exact hQ _ f1 h1 b6 a1 w1 pK q0 q1 q2 s1
   |ret=>exact hQ _ f1 h1 b6 a1 w1 pK q0 q1 q2 s1
   |exit jl=>
    simp only[bB]at q0;show(if jl=id then Q .normal a1 w1 else Q (.exit jl) a1 w1);by_cases e:jl=id
    ·rw[if_pos (beq_iff.2 e)]at q0;rw[if_pos e];exact hQ _ f1 h1 b6 a1 w1 pK q0 q1 q2 s1
    ·rw[if_neg (fun hh=>e (beq_iff.1 hh))]at q0;rw[if_neg e];exact hQ _ f1 h1 b6 a1 w1 pK q0 q1 q2 s1
  |loop b=>
   exact wpIn_loop_rounds (k+1) (rZ b f h K out hr μ a w W0 rs hf H hm hW F n Q hF (mJ.imp (fun h=>h) fun h=>by simpa[aj]using h) hQ)
  |region id ops draw=>
   simp only[aq]at hr;cases draw with
   |false=>
    refine wpIn_region ?_;have:=vm hE iZ yC (Bg _) (FC _) hF (n:=n) (ops:=ops) (Q:=Q) ops.toList 0 μ f h a w (fun j=>by simp) hr hf H fun f' h' b6 a1 w1 q0 q1 q2 s1=>hQ _ f' h' b6 a1 w1 rs q0 q1 (by rw[q2];exact hm.step s1) s1;rw[List.range_eq_range',←Array.length_toList];exact this
   |true=>
    simp only at hr;split at hr
    ·rename_i ex f' h' TJ;have QD:aT E base (k+1) (.region id ops true) f h=some (ex,f',h'):=by simpa only[aT]using TJ
     exact(codeOk hE hO hD (k+1)).1 _ f h ex f' h' QD μ a w W0 rs hf H hm hW F n Q hF mJ fun az a' w' Ae q1 q2 s1=>hQ ex f' h' az a' w' Ae hr q1 q2 s1
    ·cases hr
  |rangeFunc g ps c7 body=>
   have iI:F.round=none:=mJ.resolve_right (by simp[aj]);simp only[aq]at hr;split at hr
   ·rename_i gid first captured h1
    simp only[ae,ax]at hr;obtain⟨aY,hc⟩:=hr;have pj:=aL H.cd hf h1;generalize hq:a.eval g=q at pj;cases pj with
    |lit hh=>simp[ar]at hh
    |func t1 t2 t3 t4=>
     rename_i dP bF;refine wpIn_rangeFunc fun fn _=>?_
     let wA:World:={w with heap:=w.heap.push (.deferred (some []))}
     let lo:Loop:={state:=.ready,pending:=none,fn:=fn,tmps:=a.tmps,params:=ps,assign:=c7,body:=body,defers:=w.heap.size}
     let wB:World:={wA with heap:=wA.heap.push (.loop lo)}
     have sA:Step E base B μ h w μ h wA:=Step.Mu H (yi.mk' w _);have GZ:wA.heap.size=w.heap.size+1:=by simp[wA]
     have sB:=Step.alloc (o:=.loop .ready none f ps.toList c7 body) sA.rel (yi.mk' wA (.loop lo)) 0 (fun _ _ _ _ hh=>by cases hh) (by
      have:=fR.loop (μ:=il μ h.size ⟨wA.heap.size,0,0⟩) (h:=h.push (.loop .ready none f ps.toList c7 body)) (base:=base) (b:=h.size) (m:=⟨wA.heap.size,0,0⟩) (st:=.ready) (p:=none) (ps:=ps.toList) (c7:=c7) (body:=body) (fn:=fn) (d:=w.heap.size) (hf.mono (dO H.fresh));simpa using this)
     let mk:Deferred:={target:=.collected w.heap.size,args:= #[]}
     have Dy:oQ W0 μ wA mk w.heap.size:=⟨rfl,by simp[wA],fun b m hb he=>by have:=H.lt hb;omega,hW⟩;have Ad:w.heap.size∉rs:=by
      have:∀{ds:List Deferred} {rs:List Nat},a8 W0 μ w ds rs→∀r∈rs,r<w.heap.size:=by
       intro ds rs k
       induction k with
       |nil=>intro r hr;simp at hr
       |cons h1 _ _ ih=>intro r hr;rcases List.mem_cons.1 hr with rfl |hr
                        ·exact(Array.getElem?_eq_some_iff.1 h1.obj).1
                        ·exact ih r hr
      intro jT;have:=this hm _ jT;omega
     have hmarks:a8 W0 μ wA (mk::a.defers) (w.heap.size::rs):=.cons Dy Ad (hm.step sA)
     let args':Array Value:=dP++ #[.func (.yield wA.heap.size) #[] #[]]++bF
     have oP:=Bg (E:=E) _ _ _ _ _ _ hc;obtain⟨G0,Ci⟩:=Option.isSome_iff_exists.1 oP;obtain⟨g1,g2,g3⟩:=hE.func _ _ Ci;have Mz:G0.body.isNone=false:=by cases hx:G0.body<;>simp_all
     have gH:ao (il μ h.size ⟨wA.heap.size,0,0⟩) (first.toList++[.func (.yield h.size) #[] #[]]++captured.toList) args'.toList:=by
      have hle:μ.le (il μ h.size ⟨wA.heap.size,0,0⟩):=dO H.fresh;have v1:=(ao.gL t1 t2).mono hle;have v3:=(ao.gL t3 t4).mono hle;have v2:=ao.cons (ak.yield (bc μ h.size ⟨wA.heap.size,0,0⟩)) .nil;simpa[args']using(v1.append v2).append v3
     refine⟨wA.heap.size,[mk],wB,{target:=.fn (.func gid) bF,args:=dP++ #[.func (.yield wA.heap.size) #[] #[]]},wB,gid,args',wB,?_,?_,fun _ _=>hF.fn _,?_,hF.ok n,?_⟩
     ·rw[iI];unfold Instr.enterLoop;simp only[Sem.run_bind,run_newObj,Result.andThen_ok,Sem.run_pure];rfl
     ·have JB:∀v:Value,a.eval (.const v)=v:=fun _=>rfl;simp[resolve,hq,Deferred.ofValue,Sem.run_pure,JB]
     ·simp only[invoke,callFunc,Sem.run_bind,run_program,Result.andThen_ok,g1,g3,Mz,Bool.false_eq_true,if_false,Sem.run_pure];rfl
     ·refine(iZ _ _ wB gid _ args' _ out hc gH sB.rel F (n - 1) hF).mono ?_;rintro e w3 ⟨rv,v',h2,lB,q0,rfl,k1,s3⟩;have BY:lB h.size=some ⟨wA.heap.size,0,0⟩:=s3.le _ _ (bc _ _ _);simp only at q0;split at q0
      ·rename_i st p f0 zT mB ik hl;simp only[ae]at q0;obtain⟨bA,q0⟩:=q0;obtain⟨EH,d1,d2,d3,s4⟩:=gg s3.rel BY aY hl .exhausted p;have G1:Step E base B lB h2 w3 lB (h2.put h.size (.loop .exhausted p f0 zT mB ik)) {w3 with heap:=w3.heap.setIfInBounds wA.heap.size (.loop {EH with state:=.exhausted})}:=by
        rw[←d3]at s4 ⊢;exact s4
       have gh:=((sA.trans sB).trans s3).trans G1;have Ls:a8 W0 lB {w3 with heap:=w3.heap.setIfInBounds wA.heap.size (.loop {EH with state:=.exhausted})} (mk::a.defers) (w.heap.size::rs):=((hmarks.step sB).step s3).step G1;refine⟨p,{w3 with heap:=w3.heap.setIfInBounds wA.heap.size (.loop {EH with state:=.exhausted})},?_,?_⟩
       ·unfold Instr.endLoop;simp only[Sem.run_bind,run_getLoop (P:=P) d1,Result.andThen_ok];rw[if_neg (by rw[d2];intro hh;rw[bne_iff_ne]at bA;exact bA (eq_of_beq hh))];simp only[Sem.run_bind,bj (P:=P) d1 (fun _ _ _=>by simp),Result.andThen_ok,Sem.run_pure,d3]
       ·cases p with
        |none=>exact hQ _ f _ lB _ _ _ q0 (hf.mono gh.le) Ls gh
        |some cj=>
         exact hk cj f _ K out q0 lB {a with defers:=mk::a.defers} _ W0 _ (hf.mono gh.le) G1.rel Ls (Nat.le_trans hW gh.grow.size) F n Q hF (.inl iI) fun ex f5 h5 SC a5 w5 SD p0 p1 p2 s5=>hQ ex f5 h5 SC a5 w5 SD p0 p1 p2 (gh.trans s5)
      ·cases q0
   ·cases hr
  |scope b=>simp only[aq]at hr;cases hr
  |label l=>simp only[aq]at hr;cases hr
  |goto l=>simp only[aq]at hr;cases hr
  |refuse s=>simp only[aq]at hr;cases hr
theorem Bh (hE:aU P E) (hO:eZ P E base B) (hm:P.follows .mixedOrders=true) (n:Nat):tI P E base B (D4 E base n):=
 D5 hE hO (KG hE hO (yJ hE hm) n).1
end
def s6 (base:Nat):KV:=fun v h'=>match v with
 | .slice (some ⟨b,o,some z⟩) len _=>(ah h' b o (len*z)).bind fun cs=>aW (Nat.ble base b&&Nat.blt 0 len&&cs.all scalar) (some (.bool false::goInt len::goInt z::cs))
 |v=>aW (ar v) (some [.bool true,v])
def vn (h:ab):Out→Option (Value×ab)
 |[.bool true,v]=>aW (ar v) (some (v,h))
 | .bool false:: .int _ (.ofNat len):: .int _ (.ofNat z)::cs=>some (.slice (some ⟨h.size,0,some z⟩) len (len+1),h.push (.cells cs h.size (h.size+1) 0))
 |_=>none
noncomputable def Ig (E:Env) (n:Nat):dn:=fun g args h=>(D4 E h.size n g args h (s6 h.size)).bind (vn h)
theorem aM.ext {E:Env} {base B:Nat} {μ:aS} {h:ab} {w w':World} (H:aM E base B μ h w) (hs:w.heap.size≤w'.heap.size) (hk:∀r,r<w.heap.size→w'.heap[r]? =w.heap[r]?):aM E base B μ h w':=
 ⟨H.dZ,H.high,fun b m hb=>by
  obtain⟨p,p',k1,k2,k3⟩:=H.obj b m hb;exact⟨p,p',k1,by rw[hk _ (H.lt hb)];exact k2,k3⟩,H.own,H.alias,H.cW,H.cd,Nat.le_trans H.low hs,H.jx,H.wf,H.root⟩
theorem aM.Ih {E E0:Env} {base B:Nat} {μ:aS} {h:ab} {w:World} (H:aM E base B μ h w) (hg:∀g,E0.cd g=true→E.cd g=true):aM E0 h.size w.heap.size μ h w:=
 ⟨H.dZ,H.high,fun b m hb=>by
  obtain⟨p,p',k1,k2,k3⟩:=H.obj b m hb;have hd:=H.dZ b m hb;refine⟨p,p',k1,k2,?_⟩;cases k3 with
  |cells hn hl hf hc=>exact .cells hn hl (fun h=>by omega) hc
  |map hs=>exact .map hs
  |gD hs=>exact .gD hs
  |kp hs=>exact .kp hs
  |bM hk hs=>exact .bM hk hs
  |loop hf=>exact .loop hf
  |gK hp hs hc hn=>exact .gK hp hs hc hn,fun b m hb BW=>by have:=H.dZ b m hb;omega,fun b1 b2 m1 m2 h1 h2 _ _ BW=>by have:=H.dZ b1 m1 h1;have:=H.dZ b2 m2 h2;omega,H.cW,fun g EN=>H.cd g (hg g EN),Nat.le_refl _,Nat.le_refl _,H.wf,H.root⟩
section
variable {P:Program} {E E0:Env} {base B:Nat}
theorem vo {μ:aS} {h hX:ab} {w:World} (H:aM E base B μ h w) (_:hX.size=h.size) {out:Out} {v:Value} {h':ab} (vp:vn h out=some (v,h')) {u u':Value} {h1:ab} {b6:aS} {w':World}
 (hK:s6 h.size u h1=some out) (hv:ak b6 u u') (S:Step E0 h.size w.heap.size μ hX w b6 h1 w'):fA E base B μ h w v h' (.returned u') w':=by
 have hold:∀r,r<w.heap.size→w'.heap[r]? =w.heap[r]? :=fun r jA=>S.grow.bf r jA fun b m hb _=>H.dZ b m hb;have Hx:=H.ext S.grow.size hold;have gr:Grow base μ w w':=⟨S.grow.tape,S.grow.os,S.grow.output,S.grow.size,fun r jA _=>hold r jA⟩;have plain:∀v:Value,ar v=true→vn h [.bool true,v]=some (v,h):=fun v hp=>by simp[vn,aW,hp]
 unfold s6 at hK;split at hK
 ·rename_i b o z len cap;simp only[Option.bind_eq_some_iff,ae,Bool.and_eq_true,ax,aF,Option.some.injEq]at hK;obtain⟨cs,fj,⟨⟨BW,hlen⟩,QE⟩,rfl⟩:=hK;simp only[vn,goInt,Option.some.injEq,Prod.mk.injEq]at vp;obtain⟨rfl,rfl⟩:=vp;cases hv with
  |lit hh=>simp[ar]at hh
  |bU hb=>omega
  |slice hb q1 q2 q3 q4=>
   rename_i cap' m;obtain⟨o1,o2,k1,k2,k3⟩:=S.rel.obj b m hb;obtain⟨WT,WU⟩:=S.rel.ah hb fj;have Nv:w.heap.size≤m.r:=by
    have hn:μ b=none:=by
     cases hx:μ b with
     |none=>rfl
     |some mx=>have:=H.dZ b mx hx;omega
    rcases(S.new b m hn hb).2.2 with h5|⟨b0,m0,r1,r2,_⟩
    ·exact h5
    ·have:=H.dZ b0 m0 r2;omega
   let m2:MT:=⟨m.r,m.s+o,m.n⟩
   have Hp:=Hx.DA (o:=.cells cs h.size (h.size+1) 0) (fun _ _ _ _ hh=>by cases hh;rfl);have b7:(h.push (.cells cs h.size (h.size+1) 0)).get h.size=some (.cells cs h.size (h.size+1) 0):=by rw[ab.ai,if_pos rfl]
   obtain⟨c0,e0,QB,EP,So,sR,re⟩:∃c e fr,w'.heap[m.r]? =some (.cells c e fr)∧c.size=m.n∧mC fr m.n∧(∀(i:Nat) v,cs[i]? =some v→∃v',c[m.s+o+i]? =some v'∧ak b6 v v'):=by
    have Nw:=fj;unfold M.ah at Nw;simp only[Option.bind_eq_some_iff]at Nw;obtain⟨Fv,Lg,_⟩:=Nw;obtain⟨c,e,fr,t1,t2,t3,t4,t5⟩:=S.rel.read hb Lg;refine⟨c,e,fr,t1,t2,t4 BW,fun i v hv=>?_⟩;obtain⟨v',s1,s2⟩:=WU i v hv;refine⟨v',?_,s2⟩;simpa[World.cell?,t1]using s1
   have hle:m.s+o+cs.length≤m.n:=by
    rw[WT];have:len*z≤cap'*z:=Nat.mul_le_mul_right z q2;omega
   have LV:∀(i:Nat) v,cs[i]? =some v→scalar v=true:=fun i v hv=>List.all_eq_true.1 QE v (List.mem_of_getElem? hv);have ho:fR (il μ h.size m2) (h.push (.cells cs h.size (h.size+1) 0)) base h.size m2 (.cells cs h.size (h.size+1) 0) (.cells c0 e0 QB):=by
    refine .cells So hle (fun _=>sR) fun _ i v hv=>?_;obtain⟨v',s1,s2⟩:=re i v hv;have:=s2.an (LV i v hv);subst this;exact⟨v',s1,.nz _ (LV i v' hv)⟩
   have Ht:=Hp.Ai (b:=h.size) (m:=m2) (by simp[ab.size_push]) b7 H.fresh H.jx (by have:=H.low;show B≤m.r;omega) EP
    (fun d md hd he=>by have:=H.lt hd;simp only[m2]at he;omega) (fun _ _ _ _ hh=>by cases hh;exact⟨rfl,om⟩) (fun _ _ hh=>by simp at hh) ho
   refine⟨_,il μ h.size m2,rfl,?_,Ht,gr,dO H.fresh,fun d md h0 hd=>?_,fun d hd _=>by rw[ab.ai,if_neg om],by simp[ab.size_push]⟩
   ·have:=ak.slice (μ:=il μ h.size m2) (b:=h.size) (o:=0) (z:=z) (len:=len) (cap:=len+1) (cap':=cap') (m:=m2) (bc _ _ _) om q2 (fun h=>by omega) (by simpa[m2]using q4);simpa[m2]using this
   ·by_cases ed:d=h.size
    ·subst ed;rw[bc]at hd;cases hd;exact⟨Nat.le_refl _,H.jx,.inl Nv⟩
    ·rw[lh _ _ ed,h0]at hd;cases hd
 ·simp only[ae,Option.some.injEq]at hK;obtain⟨hp,rfl⟩:=hK;rw[plain _ hp]at vp;simp only[Option.some.injEq,Prod.mk.injEq]at vp;obtain⟨rfl,rfl⟩:=vp;have:u'=u:=by cases u<;>simp[ar]at hp<;>cases hv<;>first|rfl |simp_all
  subst this;exact⟨u',μ,rfl,.lit hp,Hx,gr,μ.le_refl,fun b m h0 h1=>(by rw[h0]at h1;cases h1),fun _ _ _=>rfl,Nat.le_refl _⟩
end
noncomputable def Vh (P:Program) (fs:List Nat) (n:Nat):FuncId→List Value→ab→Option (Value×ab):=fun g args h=>
 match fs.contains g with
 |true=>Ig (iz P mO) n g args h
 |false=>none
def QF (x:Int):List Int→List Int
 |[]=>[x]
 |y::l=>bif Int.blt' x y then x::y::l else y::QF x l
where Int.blt' (x y:Int):Bool:=decide (x<y)
def LW:List Int→List Int
 |[]=>[]
 |x::l=>QF x (LW l)
def Ii:List Value→Option (List Int)
 |[]=>some []
 | .int .i64 x::l=>(Ii l).bind fun r=>some (x::r)
 |_=>none
def TK (base:Nat):KV:=fun v h'=>match v with
 | .slice (some ⟨b,o,some 1⟩) len _=>(ah h' b o len).bind fun cs=>(Ii cs).bind fun xs=>aW (Nat.ble base b&&Nat.blt 0 len) (some (.bool false::goInt len::(LW xs).map (.int .i64)))
 |v=>aW (ar v) (some [.bool true,v])
def TL (h:ab):Out→Option (Value×ab)
 |[.bool true,v]=>aW (ar v) (some (v,h))
 | .bool false:: .int _ (.ofNat len)::cs=>(Ii cs).bind fun xs=>some (.slice (some ⟨h.size,0,some 1⟩) len (len+1),h.push (.gK xs))
 |_=>none
noncomputable def Ij (E:Env) (n:Nat):dn:=fun g args h=>(D4 E h.size n g args h (TK h.size)).bind (TL h)
section
variable {P:Program} {E E0:Env} {base B:Nat}
end
def Ik (x:Int):List Int→List (List Int)
 |[]=>[[x]]
 |y::l=>(x::y::l)::(Ik x l).map (y::·)
def perms:List Int→List (List Int)
 |[]=>[[]]
 |x::l=>(perms l).flatMap (Ik x)
def Il (h:ab):List Value→Option (Nat×List Int)
 |[]=>none
 | .slice (some ⟨b,_,some _⟩) _ cap::l=>(match Nat.beq cap 0,h.get b with
  |false,some (.gK cs)=>some (b,cs)
  |_,_=>Il h l)
 |_::l=>Il h l
def Ny (h:ab) (b:Nat):Bool:=(List.range h.size).all fun c=>match h.get c with
 |some (.cells _ f _ _)=> !Nat.beq f b
 |_=>true
noncomputable def Im (E:Env) (n:Nat):dn:=fun g args h=>(Il h args).bind fun r=>aW (Nat.blt r.1 h.size&&Ny h r.1)<|
 (meet ((perms r.2).map fun l=>D4 E h.size n g args (h.put r.1 (.cells (l.map (.int .i64)) r.1 h.size 0)) (s6 h.size))).bind (vn h)
section
variable {P:Program} {E E0:Env} {base B:Nat}
end
noncomputable def TM (P:Program) (fs bs ps:List Nat) (n:Nat):FuncId→List Value→ab→Option (Value×ab):=fun g args h=>
 match fs.contains g with
 |true=>Ig (iz P mO) n g args h
 |false=>match bs.contains g with
  |true=>Ij (iz P mO) n g args h
  |false=>match ps.contains g with
   |true=>Im (iz P mO) n g args h
   |false=>none
end Go.M
end
